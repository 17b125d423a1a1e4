-- printed by this session's own program (wip/tools/pp.py: the kit's print.py with changes); Lean checks it
import Derived.Test.YtihekdlcfohkkaaGreatDoorQFnExactStepNetx0
import Derived.Test.YtihekdlcfohkkaaGreatDoorQFnExactStepNetx1
import Derived.Test.YtihekdlcfohkkaaGreatDoorQFnExactStepNetx3
import Derived.Test.YtihekdlcfohkkaaGreatDoorQFnExactStepNetx4
namespace Go.Proofs.YtihekdlcfohkkaaGreatDoor.QFnExactStepNet
open Go.RowKit Go.Proofs.YtihekdlcfohkkaaGreatDoorW.PrintWords Go.Proofs.YtihekdlcfohkkaaGreatDoorW.PrintLast Go.Proofs.YtihekdlcfohkkaaGreatDoorW.PrintMore
attribute [local go_sem] max2_int min2_int max_two min_two max_three min_three max_four min_four strLss strGtr strLeq strGeq   -- for this text's walks alone
set_option linter.unusedVariables false
set_option linter.unusedSimpArgs false

/-! ### spec_l4Mix: function 138 -/
def spec_l4Mix.l0 : Nat → Int → Int → List Int → Int → Int → Option (Int)
  | 0, _, _, _, _, _ => none
  | k + 1, x5, x6, x14, x15, x16 => if x16 < x15 then (if 0 ≤ x16 then (if x16 < (x14.length : Int) then ((spec_l4Round.f (rd x14 x16) x6).bind fun t191 => (spec_l4Mix.l0 k x6 (Go.bits .xor .i64 x5 t191) x14 x15 (wrap64 (x16 + 1)))) else (none)) else (none)) else (some (wrap64 ((wrap64 (256 * x5)) + x6)))
def spec_l4Mix.f (k : Nat) (l0 : List Int) (a1 : Int) : Option (Int) := spec_l4Mix.l0 k (wrap64 (Int.tdiv a1 256)) (Int.tmod a1 256) l0 (l0.length : Int) 0
theorem spec_l4Mix.mono_l : ∀ k, (∀ y0 y1 y2 y3 y4, LeO (spec_l4Mix.l0 k y0 y1 y2 y3 y4) (spec_l4Mix.l0 (k + 1) y0 y1 y2 y3 y4))
 | 0 => fun _ _ _ _ _ r h => by simp [spec_l4Mix.l0] at h
 | k + 1 => by
  have ih0 := spec_l4Mix.mono_l k
  ·intro y0 y1 y2 y3 y4
   unfold spec_l4Mix.l0
   repeat' (first | (with_reducible first | exact ih0 _ _ _ _ _ | exact LeO.refl _ | exact LeO.none _ | refine LeO.ite ?_ ?_ | refine LeO.bind ?_ (fun _ => ?_)) | exact ih0 _ _ _ _ _ | exact LeO.none _ | refine LeO.ite ?_ ?_ | refine LeO.bind ?_ (fun _ => ?_))
theorem spec_l4Mix.mono : ∀ a0 a1 k, LeO (spec_l4Mix.f k a0 a1) (spec_l4Mix.f (k + 1) a0 a1) := by
 intro a0 a1 k
 have ih0 := spec_l4Mix.mono_l k
 unfold spec_l4Mix.f
 repeat' (first | (with_reducible first | exact ih0 _ _ _ _ _ | exact LeO.refl _ | exact LeO.none _ | refine LeO.ite ?_ ?_ | refine LeO.bind ?_ (fun _ => ?_)) | exact ih0 _ _ _ _ _ | exact LeO.none _ | refine LeO.ite ?_ ?_ | refine LeO.bind ?_ (fun _ => ?_))
set_option maxHeartbeats 8000000 in
set_option maxRecDepth 100000 in
theorem spec_l4Mix.calls (k : Nat) (A0 : Option Addr) (c0 : Nat) (l0 : List Int) (a1 : Int) (r : Int) (w : World) (hr0 : Kd.C (Kd.int .i64) w A0 l0.length l0) (hc0 : l0.length ≤ c0) (h : spec_l4Mix.f k l0 a1 = some r) :
  Calls Tryz.prog 138 #[.slice A0 l0.length c0, .int .i64 a1] w fun e w' => e = .returned (.int .i64 r) ∧ Drawn0 w w' := by
 have HR0 := Aside0.mk hr0; have HC0 := Aside0.mk hc0; clear hr0 hc0
 have H : (spec_l4Mix.l0 k (wrap64 (Int.tdiv a1 256)) (Int.tmod a1 256) l0 (l0.length : Int) 0) = some r := h
 clear h
 have H' := Aside0.mk H
 clear H
 go_enter Tryz.func138, Tryz.ntmps138
 go_wp2
 go_loopg [5, 6, 16] k (fun kq v5 v6 v16 w' => ∃ (x5_1 : Int) (x6_1 : Int) (x16_1 : Int), v5 = .int .i64 x5_1 ∧ v6 = .int .i64 x6_1 ∧ v16 = .int .i64 x16_1 ∧ Aside0 (spec_l4Mix.l0 kq x5_1 x6_1 l0 (l0.length : Int) x16_1 = some r) ∧ Aside0 (kq ≤ k) ∧ Drawn0 w w')
 case atStart => exact ⟨(wrap64 (Int.tdiv a1 256)), (Int.tmod a1 256), (0), er, er, er, H', ⟨Nat.le_refl _⟩, drw⟩
 case round =>
  clear H'
  obtain ⟨x5_1, x6_1, x16_1, rfl, rfl, rfl, HA, HK1, ⟨m1, rfl⟩⟩ := hrel
  cases gk with
  | zero => exact absurd HA.out (by simp [spec_l4Mix.l0])
  | succ k1 =>
   have H := HA.out; clear HA
   simp only [spec_l4Mix.l0] at H
   by_cases c3 : x16_1 < (l0.length : Int)
   ·rw [if_pos c3] at H
    have c3b0 : decide (x16_1 < (l0.length : Int)) = true := decide_eq_true c3
    clear c3; replace H := ifS H; obtain ⟨c4, H⟩ := H; have c4b0 := decide_eq_true c4; clear c4; replace H := ifS H; obtain ⟨c5, H⟩ := H; have c5b0 := decide_eq_true c5; clear c5; replace H := bS H; obtain ⟨t191, A6, H⟩ := H
    replace H : (spec_l4Mix.l0 k1 x6_1 (Go.bits .xor .i64 x5_1 t191) l0 (l0.length : Int) (wrap64 (x16_1 + 1))) = some r := H
    have H' := Aside0.mk H
    clear H
    have p190 : 0 ≤ (x16_1 : Int) := da
    have q190 : x16_1 < (l0.length : Int) := da
    obtain ⟨ad190, e190, hx190_0⟩ := Kd.at_int HR0.out x16_1 p190 q190
    cases e190
    replace p190 := eq_true p190; replace q190 := eq_true q190
    go_wp2_with (first | ((with_reducible refine gate_callee (f := 155) rfl ?_); refine goesLa (some 23) rfl Tryz.func155 #[.int .i64 (rd l0 x16_1), .int .i64 x6_1] rfl ?_; (with_reducible refine (spec_l4Round.calls (rd l0 x16_1) x6_1 t191 _ A6.out).mono ?_); rintro e w' ⟨rfl, ⟨nd, rfl⟩⟩; refine ⟨_, rfl, ?_⟩))
    go_roundg k1
    case measure => have := HK1.out; omega
    case rel => exact ⟨(x6_1), (Go.bits .xor .i64 x5_1 t191), (wrap64 (x16_1 + 1)), er, er, er, H', ⟨by have := HK1.out; omega⟩, drw⟩
   ·rw [if_neg c3] at H
    have c3b0 : decide (x16_1 < (l0.length : Int)) = false := decide_eq_false c3
    clear c3
    obtain rfl := Option.some.inj H
    go_wp2
    go_ret
    exact ⟨er, drw⟩

/-! ### spec_MixText: function 121 -/
def spec_MixText.l0 : Nat → List Int → Int → ByteArray → List Int → Int → Option (ByteArray × Bool)
  | 0, _, _, _, _, _ => none
  | k + 1, x0, x1, x2, x8, x9 => if x9 < (x2.size : Int) then (if 0 ≤ x9 then (if 0 ≤ (wrap64 (x9 + 1)) then (if (wrap64 (x9 + 1)) < (x2.size : Int) then ((spec_l4Mix.f k x0 (Go.bits .xor .i64 (wrap64 ((wrap64 (256 * (wrap64 (bt x2 x9)))) + (wrap64 (bt x2 (wrap64 (x9 + 1)))))) x1)).bind fun t193 => ((some (([(wrap64 (Int.tdiv t193 256)) % 256, (Int.tmod t193 256) % 256] : List Int) : List Int)).bind fun y194 => (if x8.length + y194.length < 140737488355328 then (spec_MixText.l0 k x0 t193 x2 (x8 ++ y194) (wrap64 (x9 + 2))) else (none)))) else (none)) else (none)) else (none)) else (some (strOfNums x8, true))
def spec_MixText.f (k : Nat) (l0 : List Int) (a1 : Int) (a2 : ByteArray) : Option (ByteArray × Bool) := (spec_l4Text.f k l0 a1 a2).bind fun t192 => (if t192 = true then (spec_MixText.l0 k l0 a1 a2 ([] : List Int) 0) else (some ((⟨#[]⟩ : ByteArray), false)))
theorem spec_MixText.mono_l : ∀ k, (∀ y0 y1 y2 y3 y4, LeO (spec_MixText.l0 k y0 y1 y2 y3 y4) (spec_MixText.l0 (k + 1) y0 y1 y2 y3 y4))
 | 0 => fun _ _ _ _ _ r h => by simp [spec_MixText.l0] at h
 | k + 1 => by
  have ih0 := spec_MixText.mono_l k
  ·intro y0 y1 y2 y3 y4
   unfold spec_MixText.l0
   repeat' (first | (with_reducible first | exact ih0 _ _ _ _ _ | exact spec_l4Mix.mono _ _ _ | exact spec_l4Text.mono _ _ _ _ | exact LeO.refl _ | exact LeO.none _ | refine LeO.ite ?_ ?_ | refine LeO.bind ?_ (fun _ => ?_)) | exact ih0 _ _ _ _ _ | exact spec_l4Mix.mono _ _ _ | exact spec_l4Text.mono _ _ _ _ | exact LeO.none _ | refine LeO.ite ?_ ?_ | refine LeO.bind ?_ (fun _ => ?_))
theorem spec_MixText.mono : ∀ a0 a1 a2 k, LeO (spec_MixText.f k a0 a1 a2) (spec_MixText.f (k + 1) a0 a1 a2) := by
 intro a0 a1 a2 k
 have ih0 := spec_MixText.mono_l k
 unfold spec_MixText.f
 repeat' (first | (with_reducible first | exact ih0 _ _ _ _ _ | exact spec_l4Mix.mono _ _ _ | exact spec_l4Text.mono _ _ _ _ | exact LeO.refl _ | exact LeO.none _ | refine LeO.ite ?_ ?_ | refine LeO.bind ?_ (fun _ => ?_)) | exact ih0 _ _ _ _ _ | exact spec_l4Mix.mono _ _ _ | exact spec_l4Text.mono _ _ _ _ | exact LeO.none _ | refine LeO.ite ?_ ?_ | refine LeO.bind ?_ (fun _ => ?_))
set_option maxHeartbeats 8000000 in
set_option maxRecDepth 100000 in
theorem spec_MixText.calls (k : Nat) (A0 : Option Addr) (c0 : Nat) (l0 : List Int) (a1 : Int) (a2 : ByteArray) (r1 : ByteArray) (r2 : Bool) (w : World) (hr0 : Kd.C (Kd.int .i64) w A0 l0.length l0) (hc0 : l0.length ≤ c0) (h : spec_MixText.f k l0 a1 a2 = some (r1, r2)) :
  Calls Tryz.prog 121 #[.slice A0 l0.length c0, .int .i64 a1, .string a2] w fun e w' => e = .returned (.tuple #[.string r1, .bool r2]) ∧ Below w.heap.size w w' := by
 have HR0 := Aside0.mk hr0; have HC0 := Aside0.mk hc0; clear hr0 hc0
 have HB := Aside0.mk (Below.refl w.heap.size w)
 have H : ((spec_l4Text.f k l0 a1 a2).bind fun t192 => (if t192 = true then (spec_MixText.l0 k l0 a1 a2 ([] : List Int) 0) else (some ((⟨#[]⟩ : ByteArray), false)))) = some (r1, r2) := h
 clear h; replace H := bS H; obtain ⟨t192, A4, H⟩ := H
 replace H : (if t192 = true then (spec_MixText.l0 k l0 a1 a2 ([] : List Int) 0) else (some ((⟨#[]⟩ : ByteArray), false))) = some (r1, r2) := H
 by_cases c5 : t192 = true
 ·subst c5
  have H1 : (spec_MixText.l0 k l0 a1 a2 ([] : List Int) 0) = some (r1, r2) := by rw [if_pos rfl] at H; exact H
  clear H
  have H := H1
  clear H1
  have H' := Aside0.mk H
  clear H
  go_enter Tryz.func121, Tryz.ntmps121
  go_wp2_with (first | (go_at_call 137; (with_reducible refine (spec_l4Text.calls k _ _ l0 a1 a2 true _ ?side1 ?side2 A4.out).mono ?_); (case side1 => exact cd HR0.out); (case side2 => exact HC0.out); rintro e w' ⟨rfl, ⟨nd, rfl⟩⟩; (try first | exact ⟨rfl, _, World.drewN_drewN _ _ _⟩ | exact ⟨rfl, _, Eq.trans (World.drewN_drewN _ _ _) (congrArg (World.drewN _) (Nat.add_assoc _ _ _))⟩)))
  repeat (go_quiet (first | (go_at_call 137; (with_reducible refine (spec_l4Text.calls k _ _ l0 a1 a2 true _ ?side1 ?side2 A4.out).mono ?_); (case side1 => exact cd HR0.out); (case side2 => exact HC0.out); rintro e w' ⟨rfl, ⟨nd, rfl⟩⟩; (try first | exact ⟨rfl, _, World.drewN_drewN _ _ _⟩ | exact ⟨rfl, _, Eq.trans (World.drewN_drewN _ _ _) (congrArg (World.drewN _) (Nat.add_assoc _ _ _))⟩))); try go_wp2_with (first | (go_at_call 137; (with_reducible refine (spec_l4Text.calls k _ _ l0 a1 a2 true _ ?side1 ?side2 A4.out).mono ?_); (case side1 => exact cd HR0.out); (case side2 => exact HC0.out); rintro e w' ⟨rfl, ⟨nd, rfl⟩⟩; (try first | exact ⟨rfl, _, World.drewN_drewN _ _ _⟩ | exact ⟨rfl, _, Eq.trans (World.drewN_drewN _ _ _) (congrArg (World.drewN _) (Nat.add_assoc _ _ _))⟩))))
  go_loopg [1, 8, 9] k (fun kq v1 v8 v9 w' => ∃ (x1_1 : Int) (x8_1 : List Int) (x9_1 : Int), v1 = .int .i64 x1_1 ∧ v9 = .int .i64 x9_1 ∧ Aside0 (spec_MixText.l0 kq l0 x1_1 a2 x8_1 x9_1 = some (r1, r2)) ∧ Aside0 (kq ≤ k) ∧ Aside0 (Kd.R (Kd.int .u8) 5 w' w.heap.size (fun _ => True) v8 x8_1) ∧ Aside0 (Below w.heap.size w w'))
  case atStart => exact ⟨(a1), (([] : List Int)), (0), er, er, H', ⟨Nat.le_refl _⟩, ⟨by first | exact Kd.R_nil _ _ _ _ _ | exact Kd.N_nil _ _ _ _ _ | exact Kd.V_nil _ _ _ _ _ | exact Kd.Q_nil _ _ _ _ _ | exact Kd.S_nil _ _ _ _ _⟩, ⟨belowd HB⟩⟩
  case round =>
   clear H'
   (try clear c5)
   obtain ⟨x1_1, x8_1, x9_1, rfl, rfl, HA, HK1, HO_8, HB⟩ := hrel
   cases gk with
   | zero => exact absurd HA.out (by simp [spec_MixText.l0])
   | succ k1 =>
    have H := HA.out; clear HA
    simp only [spec_MixText.l0] at H
    by_cases c6 : x9_1 < (a2.size : Int)
    ·rw [if_pos c6] at H
     have c6b0 : decide (x9_1 < (a2.size : Int)) = true := decide_eq_true c6
     clear c6; replace H := ifS H; obtain ⟨c7, H⟩ := H; have c7b0 := decide_eq_true c7; clear c7
     obtain ⟨ji9, hji9⟩ : ∃ j_ : Int, (wrap64 (x9_1 + 1)) = j_ := ⟨_, rfl⟩
     replace H : (if 0 ≤ (ji9) then (if (ji9) < (a2.size : Int) then ((spec_l4Mix.f k1 l0 (Go.bits .xor .i64 (wrap64 ((wrap64 (256 * (wrap64 (bt a2 x9_1)))) + (wrap64 (bt a2 (ji9))))) x1_1)).bind fun t193 => ((some (([(wrap64 (Int.tdiv t193 256)) % 256, (Int.tmod t193 256) % 256] : List Int) : List Int)).bind fun y194 => (if x8_1.length + y194.length < 140737488355328 then (spec_MixText.l0 k1 l0 t193 a2 (x8_1 ++ y194) (wrap64 (x9_1 + 2))) else (none)))) else (none)) else (none)) = some (r1, r2) := by first | (rw [hji9] at H; exact H) | (simp only [hji9] at H ⊢; exact H)
     have hji9w : (IntKind.i64.wrap (x9_1 + 1)) = ji9 := (i64_w _).trans hji9
     replace H := ifS H; obtain ⟨c10, H⟩ := H; have c10b0 := decide_eq_true c10; clear c10; replace H := ifS H; obtain ⟨c11, H⟩ := H; have c11b0 := decide_eq_true c11; clear c11; replace H := bS H; obtain ⟨t193, A13, H⟩ := H
     replace H : ((some (([(wrap64 (Int.tdiv t193 256)) % 256, (Int.tmod t193 256) % 256] : List Int) : List Int)).bind fun y194 => (if x8_1.length + y194.length < 140737488355328 then (spec_MixText.l0 k1 l0 t193 a2 (x8_1 ++ y194) (wrap64 (x9_1 + 2))) else (none))) = some (r1, r2) := H
     obtain ⟨y194, hy_⟩ : ∃ y_ : List Int, y_ = (([(wrap64 (Int.tdiv t193 256)) % 256, (Int.tmod t193 256) % 256] : List Int)) := ⟨_, rfl⟩
     replace H : (if x8_1.length + y194.length < 140737488355328 then (spec_MixText.l0 k1 l0 t193 a2 (x8_1 ++ y194) (wrap64 (x9_1 + 2))) else (none)) = some (r1, r2) := yH
     have Ny194 := ak hy_; clear hy_; replace H := ifS H; obtain ⟨c14, H⟩ := H; have LMc14 := Aside0.mk c14; clear c14
     obtain ⟨y197, hy_⟩ : ∃ y_ : List Int, y_ = (x8_1 ++ y194) := ⟨_, rfl⟩
     replace H : (spec_MixText.l0 k1 l0 t193 a2 y197 (wrap64 (x9_1 + 2))) = some (r1, r2) := yH
     have Ny197 := ak hy_; clear hy_
     have H' := Aside0.mk H
     clear H
     have p8 : 0 ≤ (x9_1 : Int) := da
     have q8 : x9_1 < (a2.size : Int) := da
     have hx8 := bt_at a2 x9_1
     replace p8 := eq_true p8; replace q8 := eq_true q8
     have p12 : 0 ≤ ((ji9) : Int) := da
     have q12 : (ji9) < (a2.size : Int) := da
     have hx12 := bt_at a2 (ji9)
     replace p12 := eq_true p12; replace q12 := eq_true q12
     go_wp2_with (first | (go_at_call 138; (with_reducible refine (spec_l4Mix.calls k1 _ _ l0 (Go.bits .xor .i64 (wrap64 ((wrap64 (256 * (wrap64 (bt a2 x9_1)))) + (wrap64 (bt a2 (ji9))))) x1_1) t193 _ ?side1 ?side2 A13.out).mono ?_); (case side1 => exact cd (Kd.C_below HR0.out HB.out)); (case side2 => exact HC0.out); rintro e w' ⟨rfl, ⟨nd, rfl⟩⟩; (try first | exact ⟨rfl, _, World.drewN_drewN _ _ _⟩ | exact ⟨rfl, _, Eq.trans (World.drewN_drewN _ _ _) (congrArg (World.drewN _) (Nat.add_assoc _ _ _))⟩)) | ((with_reducible refine gate_dst (N := 43) rfl ?_); refine Kd.R_lit (Kd.int .u8) _ 5 ?hg (N := 43) ?hd (xs := ([(wrap64 (Int.tdiv t193 256)) % 256, (Int.tmod t193 256) % 256] : List Int)) (inner := [.int .u8 ((wrap64 (Int.tdiv t193 256)) % 256), .int .u8 ((Int.tmod t193 256) % 256)]) (ok := fun _ => True) (okp := fun _ => True) ?hr ?hp (fun _ hk => hk) trivial (Below.refl _ _) (Nat.le_refl _) (by simp) ?_; (case hd => rfl); (case hg => rfl); (case hr => first | (go_simp; done) | (go_simp; rfl)); (case hp => exact (Reps.one (show Kd.M (Kd.int .u8) _ _ _ ((wrap64 (Int.tdiv t193 256)) % 256) [.int .u8 ((wrap64 (Int.tdiv t193 256)) % 256)] from rfl) (Reps.one (show Kd.M (Kd.int .u8) _ _ _ ((Int.tmod t193 256) % 256) [.int .u8 ((Int.tmod t193 256) % 256)] from rfl) (Reps.none _ _)))); intro v195 w15 ho16 hb hg_ hnew_; clear hg_ hnew_; (first | rw [← Ny194.out] at ho16 | (simp only [Int.reduceToNat] at ho16; rw [← Ny194.out] at ho16)); have HO196 := ak (Kd.R_lower (Kd.R_new' ho16 (Kd.R_lt (rdl HO_8))) (below_size (belowd HB))); replace HO_8 := ak (Kd.R_elder' (rdl HO_8) (Kd.R_base ho16) hb); replace HB := ak (below_step (belowd HB) hb); clear hb ho16; obtain ⟨Ao18, co18, eo18⟩ := Kd.R_slice HO196.out; subst eo18) | ((with_reducible refine gate_builtin (b := .append) (xs := #[.tmp 36, .tmp 43]) rfl ?_); at_builtin; refine Kd.R_append_rows (Kd.int .u8) (w0 := w) w.heap.size rfl (.tmp 36) (.tmp 43) 56 5 (.int .u8 0) 1 rfl Tryz.underlying56 info5 rfl (by decide) (by omega) u8 x8_1 y194 _ _ _ (fun k_ => some k_ ≠ (.slice Ao18 y194.length co18 : Value).ownBlock) (fun _ => False) rfl rfl ?aO ?aR (fun _ _ h => h) (fun _ h => h.elim) ?aF ?aB ?aS ?aL ?_; (case aR => exact cd (Kd.R_reads' HO196.out).2.2); (case aB => exact (belowd HB)); (case aF => exact (fun k_ hk => Kd.fresh' (Kd.R_lt (rdl HO196)) k_ hk)); (case aO => exact (by (with_reducible repeat (first | apply Kd.R_alloc | apply Kd.R_drewN | apply Kd.R_drew)); exact Kd.R_mono HO_8.out (fun _ hk => hk.2))); (case aS => exact (below_size (belowd HB))); (case aL => have := LMc14.out; omega); intro v198 w17 ho hb hg hat; rw [← Ny197.out] at ho; replace HO196 := ak (Kd.R_after (ok := (fun _ => True)) (rdl HO196) hg hat); replace HB := ak (hb); have HO199 := ak (ho); clear HO_8; clear ho hb hg hat))
     repeat (go_quiet (first | (go_at_call 138; (with_reducible refine (spec_l4Mix.calls k1 _ _ l0 (Go.bits .xor .i64 (wrap64 ((wrap64 (256 * (wrap64 (bt a2 x9_1)))) + (wrap64 (bt a2 (ji9))))) x1_1) t193 _ ?side1 ?side2 A13.out).mono ?_); (case side1 => exact cd (Kd.C_below HR0.out HB.out)); (case side2 => exact HC0.out); rintro e w' ⟨rfl, ⟨nd, rfl⟩⟩; (try first | exact ⟨rfl, _, World.drewN_drewN _ _ _⟩ | exact ⟨rfl, _, Eq.trans (World.drewN_drewN _ _ _) (congrArg (World.drewN _) (Nat.add_assoc _ _ _))⟩)) | ((with_reducible refine gate_dst (N := 43) rfl ?_); refine Kd.R_lit (Kd.int .u8) _ 5 ?hg (N := 43) ?hd (xs := ([(wrap64 (Int.tdiv t193 256)) % 256, (Int.tmod t193 256) % 256] : List Int)) (inner := [.int .u8 ((wrap64 (Int.tdiv t193 256)) % 256), .int .u8 ((Int.tmod t193 256) % 256)]) (ok := fun _ => True) (okp := fun _ => True) ?hr ?hp (fun _ hk => hk) trivial (Below.refl _ _) (Nat.le_refl _) (by simp) ?_; (case hd => rfl); (case hg => rfl); (case hr => first | (go_simp; done) | (go_simp; rfl)); (case hp => exact (Reps.one (show Kd.M (Kd.int .u8) _ _ _ ((wrap64 (Int.tdiv t193 256)) % 256) [.int .u8 ((wrap64 (Int.tdiv t193 256)) % 256)] from rfl) (Reps.one (show Kd.M (Kd.int .u8) _ _ _ ((Int.tmod t193 256) % 256) [.int .u8 ((Int.tmod t193 256) % 256)] from rfl) (Reps.none _ _)))); intro v195 w15 ho16 hb hg_ hnew_; clear hg_ hnew_; (first | rw [← Ny194.out] at ho16 | (simp only [Int.reduceToNat] at ho16; rw [← Ny194.out] at ho16)); have HO196 := ak (Kd.R_lower (Kd.R_new' ho16 (Kd.R_lt (rdl HO_8))) (below_size (belowd HB))); replace HO_8 := ak (Kd.R_elder' (rdl HO_8) (Kd.R_base ho16) hb); replace HB := ak (below_step (belowd HB) hb); clear hb ho16; obtain ⟨Ao18, co18, eo18⟩ := Kd.R_slice HO196.out; subst eo18) | ((with_reducible refine gate_builtin (b := .append) (xs := #[.tmp 36, .tmp 43]) rfl ?_); at_builtin; refine Kd.R_append_rows (Kd.int .u8) (w0 := w) w.heap.size rfl (.tmp 36) (.tmp 43) 56 5 (.int .u8 0) 1 rfl Tryz.underlying56 info5 rfl (by decide) (by omega) u8 x8_1 y194 _ _ _ (fun k_ => some k_ ≠ (.slice Ao18 y194.length co18 : Value).ownBlock) (fun _ => False) rfl rfl ?aO ?aR (fun _ _ h => h) (fun _ h => h.elim) ?aF ?aB ?aS ?aL ?_; (case aR => exact cd (Kd.R_reads' HO196.out).2.2); (case aB => exact (belowd HB)); (case aF => exact (fun k_ hk => Kd.fresh' (Kd.R_lt (rdl HO196)) k_ hk)); (case aO => exact (by (with_reducible repeat (first | apply Kd.R_alloc | apply Kd.R_drewN | apply Kd.R_drew)); exact Kd.R_mono HO_8.out (fun _ hk => hk.2))); (case aS => exact (below_size (belowd HB))); (case aL => have := LMc14.out; omega); intro v198 w17 ho hb hg hat; rw [← Ny197.out] at ho; replace HO196 := ak (Kd.R_after (ok := (fun _ => True)) (rdl HO196) hg hat); replace HB := ak (hb); have HO199 := ak (ho); clear HO_8; clear ho hb hg hat)); try go_wp2_with (first | (go_at_call 138; (with_reducible refine (spec_l4Mix.calls k1 _ _ l0 (Go.bits .xor .i64 (wrap64 ((wrap64 (256 * (wrap64 (bt a2 x9_1)))) + (wrap64 (bt a2 (ji9))))) x1_1) t193 _ ?side1 ?side2 A13.out).mono ?_); (case side1 => exact cd (Kd.C_below HR0.out HB.out)); (case side2 => exact HC0.out); rintro e w' ⟨rfl, ⟨nd, rfl⟩⟩; (try first | exact ⟨rfl, _, World.drewN_drewN _ _ _⟩ | exact ⟨rfl, _, Eq.trans (World.drewN_drewN _ _ _) (congrArg (World.drewN _) (Nat.add_assoc _ _ _))⟩)) | ((with_reducible refine gate_dst (N := 43) rfl ?_); refine Kd.R_lit (Kd.int .u8) _ 5 ?hg (N := 43) ?hd (xs := ([(wrap64 (Int.tdiv t193 256)) % 256, (Int.tmod t193 256) % 256] : List Int)) (inner := [.int .u8 ((wrap64 (Int.tdiv t193 256)) % 256), .int .u8 ((Int.tmod t193 256) % 256)]) (ok := fun _ => True) (okp := fun _ => True) ?hr ?hp (fun _ hk => hk) trivial (Below.refl _ _) (Nat.le_refl _) (by simp) ?_; (case hd => rfl); (case hg => rfl); (case hr => first | (go_simp; done) | (go_simp; rfl)); (case hp => exact (Reps.one (show Kd.M (Kd.int .u8) _ _ _ ((wrap64 (Int.tdiv t193 256)) % 256) [.int .u8 ((wrap64 (Int.tdiv t193 256)) % 256)] from rfl) (Reps.one (show Kd.M (Kd.int .u8) _ _ _ ((Int.tmod t193 256) % 256) [.int .u8 ((Int.tmod t193 256) % 256)] from rfl) (Reps.none _ _)))); intro v195 w15 ho16 hb hg_ hnew_; clear hg_ hnew_; (first | rw [← Ny194.out] at ho16 | (simp only [Int.reduceToNat] at ho16; rw [← Ny194.out] at ho16)); have HO196 := ak (Kd.R_lower (Kd.R_new' ho16 (Kd.R_lt (rdl HO_8))) (below_size (belowd HB))); replace HO_8 := ak (Kd.R_elder' (rdl HO_8) (Kd.R_base ho16) hb); replace HB := ak (below_step (belowd HB) hb); clear hb ho16; obtain ⟨Ao18, co18, eo18⟩ := Kd.R_slice HO196.out; subst eo18) | ((with_reducible refine gate_builtin (b := .append) (xs := #[.tmp 36, .tmp 43]) rfl ?_); at_builtin; refine Kd.R_append_rows (Kd.int .u8) (w0 := w) w.heap.size rfl (.tmp 36) (.tmp 43) 56 5 (.int .u8 0) 1 rfl Tryz.underlying56 info5 rfl (by decide) (by omega) u8 x8_1 y194 _ _ _ (fun k_ => some k_ ≠ (.slice Ao18 y194.length co18 : Value).ownBlock) (fun _ => False) rfl rfl ?aO ?aR (fun _ _ h => h) (fun _ h => h.elim) ?aF ?aB ?aS ?aL ?_; (case aR => exact cd (Kd.R_reads' HO196.out).2.2); (case aB => exact (belowd HB)); (case aF => exact (fun k_ hk => Kd.fresh' (Kd.R_lt (rdl HO196)) k_ hk)); (case aO => exact (by (with_reducible repeat (first | apply Kd.R_alloc | apply Kd.R_drewN | apply Kd.R_drew)); exact Kd.R_mono HO_8.out (fun _ hk => hk.2))); (case aS => exact (below_size (belowd HB))); (case aL => have := LMc14.out; omega); intro v198 w17 ho hb hg hat; rw [← Ny197.out] at ho; replace HO196 := ak (Kd.R_after (ok := (fun _ => True)) (rdl HO196) hg hat); replace HB := ak (hb); have HO199 := ak (ho); clear HO_8; clear ho hb hg hat)))
     go_roundg k1
     case measure => have := HK1.out; omega
     case rel => exact ⟨(t193), (y197), (wrap64 (x9_1 + 2)), er, er, H', ⟨by have := HK1.out; omega⟩, ⟨by (with_reducible repeat (first | apply Kd.R_alloc | apply Kd.R_drewN | apply Kd.R_drew)); exact Kd.R_mono HO199.out (fun _ hk => trivial)⟩, ⟨belowd HB⟩⟩
    ·rw [if_neg c6] at H
     have c6b0 : decide (x9_1 < (a2.size : Int)) = false := decide_eq_false c6
     clear c6
     simp only [Option.some.injEq, Prod.mk.injEq] at H
     obtain ⟨rfl, rfl⟩ := H
     have hcv19 := own_string (P := Tryz.prog) Tryz.underlying56 Tryz.underlying5 Tryz.underlying9 (Kd.own_of_R HO_8.out)
     go_wp2
     repeat (go_quiet (fail); try go_wp2)
     go_ret2
     exact ⟨er2, belowd HB⟩
 ·replace c5 := Bool.eq_false_iff.mpr c5
  subst c5
  have H1 : (some ((⟨#[]⟩ : ByteArray), false)) = some (r1, r2) := by rw [if_neg (show ¬ (false = true) by decide)] at H; exact H
  clear H
  have H := H1
  clear H1
  simp only [Option.some.injEq, Prod.mk.injEq] at H
  obtain ⟨rfl, rfl⟩ := H
  go_enter Tryz.func121, Tryz.ntmps121
  go_wp2_with (first | (go_at_call 137; (with_reducible refine (spec_l4Text.calls k _ _ l0 a1 a2 false _ ?side1 ?side2 A4.out).mono ?_); (case side1 => exact cd HR0.out); (case side2 => exact HC0.out); rintro e w' ⟨rfl, ⟨nd, rfl⟩⟩; (try first | exact ⟨rfl, _, World.drewN_drewN _ _ _⟩ | exact ⟨rfl, _, Eq.trans (World.drewN_drewN _ _ _) (congrArg (World.drewN _) (Nat.add_assoc _ _ _))⟩)))
  repeat (go_quiet (first | (go_at_call 137; (with_reducible refine (spec_l4Text.calls k _ _ l0 a1 a2 false _ ?side1 ?side2 A4.out).mono ?_); (case side1 => exact cd HR0.out); (case side2 => exact HC0.out); rintro e w' ⟨rfl, ⟨nd, rfl⟩⟩; (try first | exact ⟨rfl, _, World.drewN_drewN _ _ _⟩ | exact ⟨rfl, _, Eq.trans (World.drewN_drewN _ _ _) (congrArg (World.drewN _) (Nat.add_assoc _ _ _))⟩))); try go_wp2_with (first | (go_at_call 137; (with_reducible refine (spec_l4Text.calls k _ _ l0 a1 a2 false _ ?side1 ?side2 A4.out).mono ?_); (case side1 => exact cd HR0.out); (case side2 => exact HC0.out); rintro e w' ⟨rfl, ⟨nd, rfl⟩⟩; (try first | exact ⟨rfl, _, World.drewN_drewN _ _ _⟩ | exact ⟨rfl, _, Eq.trans (World.drewN_drewN _ _ _) (congrArg (World.drewN _) (Nat.add_assoc _ _ _))⟩))))
  go_ret2
  exact ⟨er2, belowd HB⟩

/-! ### spec_l7Pad: function 111 -/
def spec_l7Pad.f (k : Nat) (a0 : Int) (a1 : Int) : Option (ByteArray) := if 0 ≤ a1 then (if (a1 : Int).toNat ≤ 281474976710656 then ((spec_MixText.f k (([a0, a0, a0] : List Int)) a0 (strOfNums (List.replicate (a1 : Int).toNat 0))).bind fun bt206 => (some bt206.1)) else (none)) else (none)
theorem spec_l7Pad.mono : ∀ a0 a1 k, LeO (spec_l7Pad.f k a0 a1) (spec_l7Pad.f (k + 1) a0 a1) := by
 intro a0 a1 k
 unfold spec_l7Pad.f
 repeat' (first | (with_reducible first | exact spec_MixText.mono _ _ _ _ | exact LeO.refl _ | exact LeO.none _ | refine LeO.ite ?_ ?_ | refine LeO.bind ?_ (fun _ => ?_)) | exact spec_MixText.mono _ _ _ _ | exact LeO.none _ | refine LeO.ite ?_ ?_ | refine LeO.bind ?_ (fun _ => ?_))
set_option maxHeartbeats 8000000 in
set_option maxRecDepth 100000 in
theorem spec_l7Pad.calls (k : Nat) (a0 : Int) (a1 : Int) (r : ByteArray) (w : World) (h : spec_l7Pad.f k a0 a1 = some r) :
  Calls Tryz.prog 111 #[.int .i64 a0, .int .i64 a1] w fun e w' => e = .returned (.string r) ∧ Below w.heap.size w w' := by
 have HB := Aside0.mk (Below.refl w.heap.size w)
 have H : (if 0 ≤ a1 then (if (a1 : Int).toNat ≤ 281474976710656 then ((spec_MixText.f k (([a0, a0, a0] : List Int)) a0 (strOfNums (List.replicate (a1 : Int).toNat 0))).bind fun bt206 => (some bt206.1)) else (none)) else (none)) = some r := h
 clear h
 obtain ⟨y200, hy_⟩ : ∃ y_ : List Int, y_ = (([a0, a0, a0] : List Int)) := ⟨_, rfl⟩
 replace H : (if 0 ≤ a1 then (if (a1 : Int).toNat ≤ 281474976710656 then ((spec_MixText.f k y200 a0 (strOfNums (List.replicate (a1 : Int).toNat 0))).bind fun bt206 => (some bt206.1)) else (none)) else (none)) = some r := yH
 have Ny200 := ak hy_; clear hy_; replace H := ifS H; obtain ⟨c3, H⟩ := H; have c3b0 := eq_true c3
 have c3b1 : decide (0 ≤ a1) = true := decide_eq_true c3
 clear c3; replace H := ifS H; obtain ⟨c4, H⟩ := H; have c4b0 := eq_true c4
 have c4b1 : decide ((a1 : Int).toNat ≤ 281474976710656) = true := decide_eq_true c4
 clear c4
 obtain ⟨y203, hy_⟩ : ∃ y_ : List Int, y_ = (List.replicate (a1 : Int).toNat 0) := ⟨_, rfl⟩
 replace H : ((spec_MixText.f k y200 a0 (strOfNums y203)).bind fun bt206 => (some bt206.1)) = some r := yH
 have Ny203 := ak hy_; clear hy_; replace H := bS H; obtain ⟨⟨t206, t207⟩, A5, H⟩ := H
 replace H : (some t206) = some r := H
 obtain rfl := Option.some.inj H
 go_enter Tryz.func111, Tryz.ntmps111
 go_wp2_with (first | ((with_reducible refine gate_dst (N := 11) rfl ?_); refine Kd.R_lit (Kd.int .i64) _ 3 ?hg (N := 11) ?hd (xs := ([a0, a0, a0] : List Int)) (inner := [.int .i64 a0, .int .i64 a0, .int .i64 a0]) (ok := fun _ => True) (okp := fun _ => True) ?hr ?hp (fun _ hk => hk) trivial (Below.refl _ _) (Nat.le_refl _) (by simp) ?_; (case hd => rfl); (case hg => rfl); (case hr => first | (go_simp; done) | (go_simp; rfl)); (case hp => exact (Reps.one (show Kd.M (Kd.int .i64) _ _ _ a0 [.int .i64 a0] from rfl) (Reps.one (show Kd.M (Kd.int .i64) _ _ _ a0 [.int .i64 a0] from rfl) (Reps.one (show Kd.M (Kd.int .i64) _ _ _ a0 [.int .i64 a0] from rfl) (Reps.none _ _))))); intro v201 w6 ho7 hb hg_ hnew_; clear hg_ hnew_; (first | rw [← Ny200.out] at ho7 | (simp only [Int.reduceToNat] at ho7; rw [← Ny200.out] at ho7)); have HO202 := ak (Kd.R_lower ho7 (below_size (belowd HB))); replace HB := ak (below_step (belowd HB) hb); clear hb ho7) | ((with_reducible refine gate_dst (N := 14) rfl ?_); refine Kd.R_make (Kd.int .u8) _ 5 rfl (N := 14) rfl 56 _ _ rfl a1 rfl rfl Tryz.underlying56 (.int .u8 0) 1 info5 rfl (by decide) (by omega) 0 (ok := fun _ => True) (okp := fun _ => True) rfl (fun _ hk => hk) trivial (da) (Nat.le_trans (Nat.mul_le_mul_right _ (da : a1.toNat ≤ 281474976710656)) (by omega)) (Below.refl _ _) (Nat.le_refl _) ?_; intro v204 w8 ho9 hb hg_ hnew_; clear hg_ hnew_; (first | rw [← Ny203.out] at ho9 | (simp only [Int.reduceToNat] at ho9; rw [← Ny203.out] at ho9)); replace HO202 := ak (Kd.R_below (rdl HO202) hb); have HO205 := ak (Kd.R_lower ho9 (below_size (belowd HB))); replace HB := ak (below_step (belowd HB) hb); clear hb ho9; have hcv10 := own_string (P := Tryz.prog) Tryz.underlying56 Tryz.underlying5 Tryz.underlying9 (Kd.own_of_R HO205.out); obtain ⟨Ao11, co11, eo11⟩ := Kd.R_slice HO202.out; subst eo11) | ((with_reducible refine gate_callee (f := 121) rfl ?_); refine goesLa (some 16) rfl Tryz.func121 #[.slice Ao11 y200.length co11, .int .i64 a0, .string (strOfNums y203)] rfl ?_; (with_reducible refine (spec_MixText.calls k _ _ y200 a0 (strOfNums y203) t206 t207 _ ?side1 ?side2 A5.out).mono ?_); (case side1 => exact cd (Kd.R_reads' HO202.out).2.2); (case side2 => exact (Kd.R_reads' HO202.out).2.1); rintro e w12 ⟨rfl, hb⟩; refine ⟨_, rfl, ?_⟩; replace HO202 := ak (Kd.R_below (rdl HO202) hb); replace HO205 := ak (Kd.R_below (rdl HO205) hb); replace HB := ak (below_step (belowd HB) hb); (try clear hb)))
 go_ret
 exact ⟨er2, belowd HB⟩

/-! ### spec_l7Check: function 112 -/
def spec_l7Check.l0 : Nat → ByteArray → Int → Int → Option (Int)
  | 0, _, _, _ => none
  | k + 1, x0, x3, x4 => if x4 < (x0.size : Int) then (if 0 ≤ x4 then (spec_l7Check.l0 k x0 (wrap64 (x3 + (wrap64 ((wrap64 (bt x0 x4)) * (wrap64 (x4 + 1)))))) (wrap64 (x4 + 1))) else (none)) else (some (Int.tmod x3 251))
def spec_l7Check.f (k : Nat) (a0 : ByteArray) : Option (Int) := spec_l7Check.l0 k a0 0 0
theorem spec_l7Check.mono_l : ∀ k, (∀ y0 y1 y2, LeO (spec_l7Check.l0 k y0 y1 y2) (spec_l7Check.l0 (k + 1) y0 y1 y2))
 | 0 => fun _ _ _ r h => by simp [spec_l7Check.l0] at h
 | k + 1 => by
  have ih0 := spec_l7Check.mono_l k
  ·intro y0 y1 y2
   unfold spec_l7Check.l0
   repeat' (first | (with_reducible first | exact ih0 _ _ _ | exact LeO.refl _ | exact LeO.none _ | refine LeO.ite ?_ ?_ | refine LeO.bind ?_ (fun _ => ?_)) | exact ih0 _ _ _ | exact LeO.none _ | refine LeO.ite ?_ ?_ | refine LeO.bind ?_ (fun _ => ?_))
theorem spec_l7Check.mono : ∀ a0 k, LeO (spec_l7Check.f k a0) (spec_l7Check.f (k + 1) a0) := by
 intro a0 k
 have ih0 := spec_l7Check.mono_l k
 unfold spec_l7Check.f
 repeat' (first | (with_reducible first | exact ih0 _ _ _ | exact LeO.refl _ | exact LeO.none _ | refine LeO.ite ?_ ?_ | refine LeO.bind ?_ (fun _ => ?_)) | exact ih0 _ _ _ | exact LeO.none _ | refine LeO.ite ?_ ?_ | refine LeO.bind ?_ (fun _ => ?_))
set_option maxHeartbeats 8000000 in
set_option maxRecDepth 100000 in
theorem spec_l7Check.calls (k : Nat) (a0 : ByteArray) (r : Int) (w : World) (h : spec_l7Check.f k a0 = some r) :
  Calls Tryz.prog 112 #[.string a0] w fun e w' => e = .returned (.int .i64 r) ∧ Drawn0 w w' := by
 have H : (spec_l7Check.l0 k a0 0 0) = some r := h
 clear h
 have H' := Aside0.mk H
 clear H
 go_enter Tryz.func112, Tryz.ntmps112
 go_wp2
 go_loopg [3, 4] k (fun kq v3 v4 w' => ∃ (x3_1 : Int) (x4_1 : Int), v3 = .int .i64 x3_1 ∧ v4 = .int .i64 x4_1 ∧ Aside0 (spec_l7Check.l0 kq a0 x3_1 x4_1 = some r) ∧ Aside0 (kq ≤ k) ∧ Drawn0 w w')
 case atStart => exact ⟨(0), (0), er, er, H', ⟨Nat.le_refl _⟩, drw⟩
 case round =>
  clear H'
  obtain ⟨x3_1, x4_1, rfl, rfl, HA, HK1, ⟨m1, rfl⟩⟩ := hrel
  cases gk with
  | zero => exact absurd HA.out (by simp [spec_l7Check.l0])
  | succ k1 =>
   have H := HA.out; clear HA
   simp only [spec_l7Check.l0] at H
   by_cases c2 : x4_1 < (a0.size : Int)
   ·rw [if_pos c2] at H
    have c2b0 : decide (x4_1 < (a0.size : Int)) = true := decide_eq_true c2
    clear c2; replace H := ifS H; obtain ⟨c3, H⟩ := H; have c3b0 := decide_eq_true c3; clear c3
    have H' := Aside0.mk H
    clear H
    have p4 : 0 ≤ (x4_1 : Int) := da
    have q4 : x4_1 < (a0.size : Int) := da
    have hx4 := bt_at a0 x4_1
    replace p4 := eq_true p4; replace q4 := eq_true q4; go_wp2
    go_roundg k1
    case measure => have := HK1.out; omega
    case rel => exact ⟨(wrap64 (x3_1 + (wrap64 ((wrap64 (bt a0 x4_1)) * (wrap64 (x4_1 + 1)))))), (wrap64 (x4_1 + 1)), er, er, H', ⟨by have := HK1.out; omega⟩, drw⟩
   ·rw [if_neg c2] at H
    have c2b0 : decide (x4_1 < (a0.size : Int)) = false := decide_eq_false c2
    clear c2
    obtain rfl := Option.some.inj H
    go_wp2
    go_ret
    exact ⟨er, drw⟩

/-! ### spec_UnpadBody: function 113 -/
def spec_UnpadBody.l0 : Nat → ByteArray → Int → Option (ByteArray × Bool)
  | 0, _, _ => none
  | k + 1, x0, x4 => if x4 > 0 then (if 0 ≤ x4 then (if x4 < (x0.size : Int) then (if (bt x0 x4) = 0 then (spec_UnpadBody.l0 k x0 (wrap64 (x4 - 1))) else (if (bt x0 x4) = 128 then (if x4 ≤ (x0.size : Int) then (some (x0.extract 0 (x4 : Int).toNat, true)) else (none)) else (some ((⟨#[]⟩ : ByteArray), false)))) else (none)) else (none)) else (if 0 ≤ x4 then (if x4 < (x0.size : Int) then (if (bt x0 x4) = 128 then (if x4 ≤ (x0.size : Int) then (some (x0.extract 0 (x4 : Int).toNat, true)) else (none)) else (some ((⟨#[]⟩ : ByteArray), false))) else (none)) else (none))
def spec_UnpadBody.f (k : Nat) (a0 : ByteArray) : Option (ByteArray × Bool) := if (a0.size : Int) = 16 then (spec_UnpadBody.l0 k a0 (wrap64 ((a0.size : Int) - 1))) else (some ((⟨#[]⟩ : ByteArray), false))
theorem spec_UnpadBody.mono_l : ∀ k, (∀ y0 y1, LeO (spec_UnpadBody.l0 k y0 y1) (spec_UnpadBody.l0 (k + 1) y0 y1))
 | 0 => fun _ _ r h => by simp [spec_UnpadBody.l0] at h
 | k + 1 => by
  have ih0 := spec_UnpadBody.mono_l k
  ·intro y0 y1
   unfold spec_UnpadBody.l0
   repeat' (first | (with_reducible first | exact ih0 _ _ | exact LeO.refl _ | exact LeO.none _ | refine LeO.ite ?_ ?_ | refine LeO.bind ?_ (fun _ => ?_)) | exact ih0 _ _ | exact LeO.none _ | refine LeO.ite ?_ ?_ | refine LeO.bind ?_ (fun _ => ?_))
theorem spec_UnpadBody.mono : ∀ a0 k, LeO (spec_UnpadBody.f k a0) (spec_UnpadBody.f (k + 1) a0) := by
 intro a0 k
 have ih0 := spec_UnpadBody.mono_l k
 unfold spec_UnpadBody.f
 repeat' (first | (with_reducible first | exact ih0 _ _ | exact LeO.refl _ | exact LeO.none _ | refine LeO.ite ?_ ?_ | refine LeO.bind ?_ (fun _ => ?_)) | exact ih0 _ _ | exact LeO.none _ | refine LeO.ite ?_ ?_ | refine LeO.bind ?_ (fun _ => ?_))
set_option maxHeartbeats 8000000 in
set_option maxRecDepth 100000 in
theorem spec_UnpadBody.calls (k : Nat) (a0 : ByteArray) (r1 : ByteArray) (r2 : Bool) (w : World) (h : spec_UnpadBody.f k a0 = some (r1, r2)) :
  Calls Tryz.prog 113 #[.string a0] w fun e w' => e = .returned (.tuple #[.string r1, .bool r2]) ∧ Drawn0 w w' := by
 have H : (if (a0.size : Int) = 16 then (spec_UnpadBody.l0 k a0 (wrap64 ((a0.size : Int) - 1))) else (some ((⟨#[]⟩ : ByteArray), false))) = some (r1, r2) := h
 clear h
 by_cases c2 : (a0.size : Int) = 16
 ·rw [if_pos c2] at H
  have c2b0 : ((a0.size : Int) == 16) = true := beq_iff_eq.mpr c2
  have c2b1 : ((a0.size : Int) != 16) = false := bne_eq_false_iff_eq.mpr c2
  clear c2
  have H' := Aside0.mk H
  clear H
  go_enter Tryz.func113, Tryz.ntmps113
  go_wp2
  go_loopg [4] k (fun kq v4 w' => ∃ (x4_1 : Int), v4 = .int .i64 x4_1 ∧ Aside0 (spec_UnpadBody.l0 kq a0 x4_1 = some (r1, r2)) ∧ Aside0 (kq ≤ k) ∧ Drawn0 w w')
  case atStart => exact ⟨(wrap64 ((a0.size : Int) - 1)), er, H', ⟨Nat.le_refl _⟩, drw⟩
  case round =>
   clear H'
   (try clear c2b0); (try clear c2b1)
   obtain ⟨x4_1, rfl, HA, HK1, ⟨m1, rfl⟩⟩ := hrel
   cases gk with
   | zero => exact absurd HA.out (by simp [spec_UnpadBody.l0])
   | succ k1 =>
    have H := HA.out; clear HA
    simp only [spec_UnpadBody.l0] at H
    by_cases c3 : x4_1 > 0
    ·rw [if_pos c3] at H
     have c3b0 : decide (0 < x4_1) = true := decide_eq_true c3
     clear c3; replace H := ifS H; obtain ⟨c4, H⟩ := H; have c4b0 := decide_eq_true c4; clear c4; replace H := ifS H; obtain ⟨c5, H⟩ := H; have c5b0 := decide_eq_true c5; clear c5
     by_cases c7 : (bt a0 x4_1) = 0
     ·rw [if_pos c7] at H
      have c7b0 : ((bt a0 x4_1) == 0) = true := beq_iff_eq.mpr c7
      have c7b1 : ((bt a0 x4_1) != 0) = false := bne_eq_false_iff_eq.mpr c7
      clear c7
      have H' := Aside0.mk H
      clear H
      have p6 : 0 ≤ (x4_1 : Int) := da
      have q6 : x4_1 < (a0.size : Int) := da
      have hx6 := bt_at a0 x4_1
      replace p6 := eq_true p6; replace q6 := eq_true q6; go_wp2
      go_roundg k1
      case measure => have := HK1.out; omega
      case rel => exact ⟨(wrap64 (x4_1 - 1)), er, H', ⟨by have := HK1.out; omega⟩, drw⟩
     ·rw [if_neg c7] at H
      have c7b0 : ((bt a0 x4_1) == 0) = false := beq_eq_false_iff_ne.mpr c7
      have c7b1 : ((bt a0 x4_1) != 0) = true := bne_iff_ne.mpr c7
      by_cases c9 : (bt a0 x4_1) = 128
      ·rw [if_pos c9] at H
       have c9b0 : ((bt a0 x4_1) == 128) = true := beq_iff_eq.mpr c9
       have c9b1 : ((bt a0 x4_1) != 128) = false := bne_eq_false_iff_eq.mpr c9
       clear c9
       have c10b0 := eq_true (da : 0 ≤ x4_1)
       replace H := ifS H; obtain ⟨c11, H⟩ := H; have c11b0 := eq_true c11
       have c11b1 : decide (x4_1 ≤ (a0.size : Int)) = true := decide_eq_true c11
       clear c11
       simp only [Option.some.injEq, Prod.mk.injEq] at H
       obtain ⟨rfl, rfl⟩ := H
       have p6 : 0 ≤ (x4_1 : Int) := da
       have q6 : x4_1 < (a0.size : Int) := da
       have hx6 := bt_at a0 x4_1
       replace p6 := eq_true p6; replace q6 := eq_true q6
       have p8 : 0 ≤ (x4_1 : Int) := da
       have q8 : x4_1 < (a0.size : Int) := da
       have hx8 := bt_at a0 x4_1
       replace p8 := eq_true p8; replace q8 := eq_true q8; go_wp2
       go_ret2
       exact ⟨er, drw⟩
      ·rw [if_neg c9] at H
       have c9b0 : ((bt a0 x4_1) == 128) = false := beq_eq_false_iff_ne.mpr c9
       have c9b1 : ((bt a0 x4_1) != 128) = true := bne_iff_ne.mpr c9
       simp only [Option.some.injEq, Prod.mk.injEq] at H
       obtain ⟨rfl, rfl⟩ := H
       have p6 : 0 ≤ (x4_1 : Int) := da
       have q6 : x4_1 < (a0.size : Int) := da
       have hx6 := bt_at a0 x4_1
       replace p6 := eq_true p6; replace q6 := eq_true q6
       have p8 : 0 ≤ (x4_1 : Int) := da
       have q8 : x4_1 < (a0.size : Int) := da
       have hx8 := bt_at a0 x4_1
       replace p8 := eq_true p8; replace q8 := eq_true q8; go_wp2
       go_ret2
       exact ⟨er, drw⟩
    ·rw [if_neg c3] at H
     have c3b0 : decide (0 < x4_1) = false := decide_eq_false c3
     clear c3; replace H := ifS H; obtain ⟨c12, H⟩ := H; have c12b0 := decide_eq_true c12; clear c12; replace H := ifS H; obtain ⟨c13, H⟩ := H; have c13b0 := decide_eq_true c13; clear c13
     by_cases c15 : (bt a0 x4_1) = 128
     ·rw [if_pos c15] at H
      have c15b0 : ((bt a0 x4_1) == 128) = true := beq_iff_eq.mpr c15
      have c15b1 : ((bt a0 x4_1) != 128) = false := bne_eq_false_iff_eq.mpr c15
      clear c15
      have c16b0 := eq_true (da : 0 ≤ x4_1)
      replace H := ifS H; obtain ⟨c17, H⟩ := H; have c17b0 := eq_true c17
      have c17b1 : decide (x4_1 ≤ (a0.size : Int)) = true := decide_eq_true c17
      clear c17
      simp only [Option.some.injEq, Prod.mk.injEq] at H
      obtain ⟨rfl, rfl⟩ := H
      have p14 : 0 ≤ (x4_1 : Int) := da
      have q14 : x4_1 < (a0.size : Int) := da
      have hx14 := bt_at a0 x4_1
      replace p14 := eq_true p14; replace q14 := eq_true q14; go_wp2
      go_ret2
      exact ⟨er, drw⟩
     ·rw [if_neg c15] at H
      have c15b0 : ((bt a0 x4_1) == 128) = false := beq_eq_false_iff_ne.mpr c15
      have c15b1 : ((bt a0 x4_1) != 128) = true := bne_iff_ne.mpr c15
      simp only [Option.some.injEq, Prod.mk.injEq] at H
      obtain ⟨rfl, rfl⟩ := H
      have p14 : 0 ≤ (x4_1 : Int) := da
      have q14 : x4_1 < (a0.size : Int) := da
      have hx14 := bt_at a0 x4_1
      replace p14 := eq_true p14; replace q14 := eq_true q14; go_wp2
      go_ret2
      exact ⟨er, drw⟩
 ·rw [if_neg c2] at H
  have c2b0 : ((a0.size : Int) == 16) = false := beq_eq_false_iff_ne.mpr c2
  have c2b1 : ((a0.size : Int) != 16) = true := bne_iff_ne.mpr c2
  simp only [Option.some.injEq, Prod.mk.injEq] at H
  obtain ⟨rfl, rfl⟩ := H
  go_enter Tryz.func113, Tryz.ntmps113
  go_wp2
  go_ret2
  exact ⟨er, drw⟩

/-! ### spec_PeelOnion: function 88 -/
def spec_PeelOnion.T4 : Bool × List (List Nat × List Nat) := (true, [([], []), ([0], [0]), ([1], [1]), ([2], [2]), ([3], [3]), ([4, 3], [4]), ([5], [5]), ([6, 5], [5, 6]), ([7, 5], [5, 7]), ([5], [5]), ([9, 5], [5, 9]), ([10, 5, 5], [5, 10]), ([8, 11, 5], [5, 8, 11]), ([5, 12], [5, 12])])
def spec_PeelOnion.B4 : List Nat := [0, 1, 3, 7, 15, 31, 63, 127, 255, 63, 575, 1599, 4095, 8191]
theorem spec_PeelOnion.tab4 : rtab .any (opsOf Tryz.f88 4) = spec_PeelOnion.T4 := by kernel_rfl
theorem spec_PeelOnion.bits4 : waitsOk spec_PeelOnion.T4.2 spec_PeelOnion.B4 = true := by kernel_rfl
def spec_PeelOnion.f (k : Nat) (a0 : Int) (a1 : ByteArray) : Option (Int × ByteArray × ByteArray × Bool) := (spec_l4Key.f a0).bind fun c0 => if c0 = true ∧ a1.size = 24 then (spec_l7Pad.f k a0 24).bind fun p => (spec_l7Xor.f k a1 p).bind fun t => if t.size = 24 then (spec_l1In.f (wrap64 (bt t 0)) 1 250).bind fun c => if c = true then (spec_l7Check.f k (t.extract 2 18)).bind fun d => if wrap64 (bt t 1) = d then (spec_UnpadBody.f k ((t.extract 2 t.size ++ (⟨#[0, 0]⟩ : ByteArray)).extract 0 16)).bind fun b => some (wrap64 (bt t 0), t.extract 2 t.size ++ (⟨#[0, 0]⟩ : ByteArray), b.1, true) else some (0, ⟨#[]⟩, ⟨#[]⟩, false) else some (0, ⟨#[]⟩, ⟨#[]⟩, false) else none else none
set_option maxHeartbeats 16000000 in
set_option maxRecDepth 100000 in
theorem spec_PeelOnion.calls (k : Nat) (a0 : Int) (a1 : ByteArray) (r1 : Int) (r2 : ByteArray) (r3 : ByteArray) (r4 : Bool) (w : World) (h : spec_PeelOnion.f k a0 a1 = some (r1, r2, r3, r4)) :
  Calls Tryz.prog 88 #[.int .i64 a0, .string a1] w fun e w' => e = .returned (.tuple #[.agg #[.int .i64 r1, .string r2, .string r3], .bool r4]) ∧ Below w.heap.size w w' := by
 have huP := Tryz.underlying105
 have HS := Sep.nil w
 unfold spec_PeelOnion.f at h
 replace h := bS h; obtain ⟨c0, T0, h⟩ := h
 replace h := ifS h; obtain ⟨⟨rfl, hz⟩, h⟩ := h
 replace h := bS h; obtain ⟨p, T1, h⟩ := h
 replace h := bS h; obtain ⟨t, T2, h⟩ := h
 replace h := ifS h; obtain ⟨ht, h⟩ := h
 replace h := bS h; obtain ⟨c, T3, h⟩ := h
 have hz1 : ((a1.size : Int) != 24) = false := by rw [hz]; rfl
 have q0 : (0 < t.size) = True := eq_true (by omega)
 have q1 : (1 < t.size) = True := eq_true (by omega)
 have qi0 : (0 < (t.size : Int)) = True := eq_true (by omega)
 have qi1 : (1 < (t.size : Int)) = True := eq_true (by omega)
 have x0 : ∀ h : 0 < t.size, ((t[0]'h).toNat : Int) = bt t 0 := bt_at t 0
 have x1 : ∀ h : 1 < t.size, ((t[1]'h).toNat : Int) = bt t 1 := bt_at t 1
 have hl1 : decide ((18 : Int) ≤ (t.size : Int)) = true := decide_eq_true (by omega)
 have hl2 : decide ((2 : Int) ≤ (t.size : Int)) = true := decide_eq_true (by omega)
 have hs2 : (t.extract 2 t.size).size = 22 := by rw [ByteArray.size_extract, ht]; rfl
 have hl3 : decide ((t.extract 2 t.size).size + 2 ≤ 9223372036854775807) = true := decide_eq_true (by omega)
 have hl4 : (9223372036854775807 < (t.extract 2 t.size).size + 2) = False := eq_false (by omega)
 have hl5 : decide ((16 : Int) ≤ ((t.extract 2 t.size ++ (⟨#[0, 0]⟩ : ByteArray)).size : Int)) = true := decide_eq_true (by rw [ByteArray.size_append, hs2]; decide)
 have hl6 : (2 ≤ (t.size : Int)) = True := eq_true (by omega)
 have hl7 : (18 ≤ (t.size : Int)) = True := eq_true (by omega)
 have hl8 : (16 ≤ ((t.extract 2 t.size ++ (⟨#[0, 0]⟩ : ByteArray)).size : Int)) = True := eq_true (by rw [ByteArray.size_append, hs2]; decide)
 have hl9 : (9223372036854775807 < t.size - 2 + 2) = False := eq_false (by omega)
 clear ht hz hs2 hl3 hl4
 go_enter Tryz.func88, Tryz.ntmps88
 go_upto_region 4 with (first | ((with_reducible refine gate_dst (N := 4) rfl ?_); refine boxev 4 #[.int .i64 0, .string (⟨#[]⟩ : ByteArray), .string (⟨#[]⟩ : ByteArray)] 105 ?_; intro b4 hg_ W_ ho_ hb_; replace HS := HS.box hg_ ho_ hb_; clear hg_ ho_ hb_; obtain ⟨z40, z41, z42, f40, f41, f42⟩ := box3 (HS.blk 0)) | (go_at_call 109; refine (spec_l4Key.calls a0 true _ T0.out).mono ?_; rintro e W_ ⟨rfl, nd_, rfl⟩; replace HS := HS.drewN nd_; generalize World.drewN _ nd_ = W_ at HS ⊢; clear z40 z41 z42 f40 f41 f42; obtain ⟨z40, z41, z42, f40, f41, f42⟩ := box3 (HS.blk 0)) | (go_at_call 111; refine (spec_l7Pad.calls k a0 24 p _ T1.out).mono ?_; rintro e W_ ⟨rfl, hb_⟩; replace HS := HS.below hb_; clear hb_; clear z40 z41 z42 f40 f41 f42; obtain ⟨z40, z41, z42, f40, f41, f42⟩ := box3 (HS.blk 0)) | (go_at_call 110; refine (spec_l7Xor.calls k a1 p t _ T2.out).mono ?_; rintro e W_ ⟨rfl, hb_⟩; replace HS := HS.below hb_; clear hb_; clear z40 z41 z42 f40 f41 f42; obtain ⟨z40, z41, z42, f40, f41, f42⟩ := box3 (HS.blk 0)))
 clear z40 z41 z42 f40 f41 f42
 refine start_ (n := 14) (S := fun w' => True) (ds := []) (bl 14 0) (by kernel_rfl) rfl rfl trivial (fun hHeld => ?_); refine with_tabW spec_PeelOnion.tab4 spec_PeelOnion.bits4 (fun HT_ HW_ => ?_)
 replace HS := HS.drew
 generalize World.drew _ = W9_ at HS ⊢
 refine pureA 0 (some 23) 14 1 HT_ ?_
 refine pureA 1 (some 24) 14 3 HT_ ?_
 refine pureA 2 (some 25) 14 7 HT_ ?_
 refine oneA 3 (some 26) 14 15 HT_ (fun K hK => ?_)
 refine goes_ Tryz.func79 (by kernel_rfl) rfl #[.int .i64 (wrap64 (bt t 0)), .int .i64 1, .int .i64 250] (by rfl) rfl rfl (by (try simp only [List.map_toArray, List.map_cons, List.map_nil]); first | done | rfl) ?_
 refine (spec_l1In.calls (wrap64 (bt t 0)) 1 250 c _ T3.out).mono ?_
 clear hHeld
 rintro e W_ ⟨rfl, nd_, rfl⟩
 refine ⟨_, rfl, ?_⟩
 replace HS := HS.drewN nd_
 generalize World.drewN _ nd_ = W_ at HS ⊢
 refine hK.out _ _ trivial (fun hHeld => ?_)
 clear hK K 
 refine norm_ (a' := ?_) ?_ ?_
 rotate_left
 ·show Act.put _ (some 26) _ = _
  simp only [Act.put, List.setIfInBounds_toArray, List.set_cons_zero, List.set_cons_succ, i64_w, i32_w]
  rfl
 refine pureA 4 (some 27) 14 31 HT_ ?_
 refine pureA 5 (some 28) 14 63 HT_ ?_
 cases c with
 | false =>
  rw [if_neg (by decide)] at h
  simp only [Bool.not_false]
  refine pureB 6 (some 29) 14 127 HT_ ?_
  refine pureB 7 (some 30) 14 255 HT_ ?_
  refine pureB 8 (some 31) 14 511 HT_ ?_
  refine pureB 9 (some 32) 14 1023 HT_ ?_
  refine pureB 10 (some 33) 14 2047 HT_ ?_
  refine pureB 11 (some 34) 14 4095 HT_ ?_
  refine pureB 12 (some 35) 14 8191 HT_ ?_
  refine pureA 13 (some 36) 14 16383 HT_ ?_
  refine done_ (done_of HT_.out (by kernel_rfl)) ?_
  clear HT_ HW_ hHeld
  obtain ⟨z40, z41, z42, f40, f41, f42⟩ := box3 (HS.blk 0)
  simp only [Option.some.injEq, Prod.mk.injEq] at h
  obtain ⟨rfl, rfl, rfl, rfl⟩ := h
  go_wp2
  have HF := (((HS.putI 0 0 (.int .i64 0) #[.int .i64 0, .string (⟨#[]⟩ : ByteArray), .string (⟨#[]⟩ : ByteArray)]).putI 0 1 (.string (⟨#[]⟩ : ByteArray)) #[.int .i64 0, .string (⟨#[]⟩ : ByteArray), .string (⟨#[]⟩ : ByteArray)]).putI 0 2 (.string (⟨#[]⟩ : ByteArray)) #[.int .i64 0, .string (⟨#[]⟩ : ByteArray), .string (⟨#[]⟩ : ByteArray)])
  refine bodyPost_ret (results_ct rfl _ _ b4 105 #[.int .i64 0, .string (⟨#[]⟩ : ByteArray), .string (⟨#[]⟩ : ByteArray)] (0, 0) _ rfl (by exact (HF.blk 0).out) Tryz.underlying105 rfl (by kernel_rfl)) rfl ?_
  exact ⟨rfl, HF.base⟩
 | true =>
  rw [if_pos rfl] at h
  simp only [Bool.not_true]
  replace h := bS h; obtain ⟨d, T4, h⟩ := h
  refine pureA 6 (some 29) 14 127 HT_ ?_
  refine pureA 7 (some 30) 14 255 HT_ ?_
  refine pureA 8 (some 31) 14 511 HT_ ?_
  refine pureA 9 (some 32) 14 1023 HT_ ?_
  refine pureA 10 (some 33) 14 2047 HT_ ?_
  refine oneA 11 (some 34) 14 4095 HT_ (fun K hK => ?_)
  refine goes_ Tryz.func112 (by kernel_rfl) rfl #[.string (t.extract 2 18)] (by rfl) rfl rfl (by (try simp only [List.map_toArray, List.map_cons, List.map_nil]); first | done | rfl) ?_
  refine (spec_l7Check.calls k (t.extract 2 18) d _ T4.out).mono ?_
  clear hHeld
  rintro e W_ ⟨rfl, nd_, rfl⟩
  refine ⟨_, rfl, ?_⟩
  replace HS := HS.drewN nd_
  generalize World.drewN _ nd_ = W_ at HS ⊢
  refine hK.out _ _ trivial (fun hHeld => ?_)
  clear hK K 
  refine norm_ (a' := ?_) ?_ ?_
  rotate_left
  ·show Act.put _ (some 34) _ = _
   simp only [Act.put, List.setIfInBounds_toArray, List.set_cons_zero, List.set_cons_succ, i64_w, i32_w]
   rfl
  refine pureA 12 (some 35) 14 8191 HT_ ?_
  refine pureA 13 (some 36) 14 16383 HT_ ?_
  refine done_ (done_of HT_.out (by kernel_rfl)) ?_
  clear HT_ HW_ hHeld
  by_cases hc : wrap64 (bt t 1) = d
  ·rw [if_pos hc] at h
   have hcb : (wrap64 (bt t 1) != d) = false := by rw [hc]; exact bne_self_eq_false d
   simp only [hcb]
   replace h := bS h; obtain ⟨⟨b, b'⟩, T5, h⟩ := h
   obtain ⟨z40, z41, z42, f40, f41, f42⟩ := box3 (HS.blk 0)
   go_upto_region 7 with fail
   generalize hu : t.extract 2 t.size ++ (⟨#[0, 0]⟩ : ByteArray) = u at h T5 hl5 hl8 ⊢
   simp only [Option.some.injEq, Prod.mk.injEq] at h
   obtain ⟨rfl, rfl, rfl, rfl⟩ := h
   clear hc hu
   go_wp2_with (first | (go_at_call 113; refine (spec_UnpadBody.calls k _ b b' _ T5.out).mono ?_; rintro e W_ ⟨rfl, nd_, rfl⟩; replace HS := HS.drewN nd_; generalize World.drewN _ nd_ = W_ at HS ⊢; clear z40 z41 z42 f40 f41 f42; obtain ⟨z40, z41, z42, f40, f41, f42⟩ := box3 (HS.blk 0)))
   have HF := (((HS.putI 0 0 (.int .i64 (wrap64 (bt t 0))) #[.int .i64 (wrap64 (bt t 0)), .string (⟨#[]⟩ : ByteArray), .string (⟨#[]⟩ : ByteArray)]).putI 0 1 (.string u) #[.int .i64 (wrap64 (bt t 0)), .string u, .string (⟨#[]⟩ : ByteArray)]).putI 0 2 (.string b) #[.int .i64 (wrap64 (bt t 0)), .string u, .string b])
   refine bodyPost_ret (results_ct rfl _ _ b4 105 #[.int .i64 (wrap64 (bt t 0)), .string u, .string b] (0, 0) _ rfl (by exact (HF.blk 0).out) Tryz.underlying105 rfl (by kernel_rfl)) rfl ?_
   exact ⟨rfl, HF.base⟩
  ·rw [if_neg hc] at h
   have hcb : (wrap64 (bt t 1) != d) = true := bne_iff_ne.mpr hc
   simp only [hcb]
   clear hc
   obtain ⟨z40, z41, z42, f40, f41, f42⟩ := box3 (HS.blk 0)
   simp only [Option.some.injEq, Prod.mk.injEq] at h
   obtain ⟨rfl, rfl, rfl, rfl⟩ := h
   go_wp2
   have HF := (((HS.putI 0 0 (.int .i64 0) #[.int .i64 0, .string (⟨#[]⟩ : ByteArray), .string (⟨#[]⟩ : ByteArray)]).putI 0 1 (.string (⟨#[]⟩ : ByteArray)) #[.int .i64 0, .string (⟨#[]⟩ : ByteArray), .string (⟨#[]⟩ : ByteArray)]).putI 0 2 (.string (⟨#[]⟩ : ByteArray)) #[.int .i64 0, .string (⟨#[]⟩ : ByteArray), .string (⟨#[]⟩ : ByteArray)])
   refine bodyPost_ret (results_ct rfl _ _ b4 105 #[.int .i64 0, .string (⟨#[]⟩ : ByteArray), .string (⟨#[]⟩ : ByteArray)] (0, 0) _ rfl (by exact (HF.blk 0).out) Tryz.underlying105 rfl (by kernel_rfl)) rfl ?_
   exact ⟨rfl, HF.base⟩

/-! ### spec_l8Place: function 114 -/
def spec_l8Place.l0 : Nat → List ByteArray → ByteArray → Int → Option (List ByteArray)
  | 0, _, _, _ => none
  | k + 1, x0, x1, x5 => if x5 < (x0.length : Int) then (if 0 ≤ x5 then (if ((Op.bytesLess x1.toList ((rdOf ByteArray.empty x0 x5).toList)) = true) then ((some (([] : List ByteArray) : List ByteArray)).bind fun y209 => (if x5 ≤ (x0.length : Int) then (if y209.length + (x0.take (x5 : Int).toNat).length < 8796093022208 then ((some (y209 ++ (x0.take (x5 : Int).toNat) : List ByteArray)).bind fun y213 => (if y213.length < 8796093022208 then ((some (y213 ++ [x1] : List ByteArray)).bind fun y216 => (if y216.length + (x0.drop (x5 : Int).toNat).length < 8796093022208 then (some (y216 ++ (x0.drop (x5 : Int).toNat))) else (none))) else (none))) else (none)) else (none))) else (spec_l8Place.l0 k x0 x1 (wrap64 (x5 + 1)))) else (none)) else ((some (([] : List ByteArray) : List ByteArray)).bind fun y223 => (if 0 ≤ x5 then (if x5 ≤ (x0.length : Int) then (if y223.length + (x0.take (x5 : Int).toNat).length < 8796093022208 then ((some (y223 ++ (x0.take (x5 : Int).toNat) : List ByteArray)).bind fun y227 => (if y227.length < 8796093022208 then ((some (y227 ++ [x1] : List ByteArray)).bind fun y230 => (if y230.length + (x0.drop (x5 : Int).toNat).length < 8796093022208 then (some (y230 ++ (x0.drop (x5 : Int).toNat))) else (none))) else (none))) else (none)) else (none)) else (none)))
def spec_l8Place.f (k : Nat) (l0 : List ByteArray) (a1 : ByteArray) : Option (List ByteArray) := spec_l8Place.l0 k l0 a1 0
theorem spec_l8Place.mono_l : ∀ k, (∀ y0 y1 y2, LeO (spec_l8Place.l0 k y0 y1 y2) (spec_l8Place.l0 (k + 1) y0 y1 y2))
 | 0 => fun _ _ _ r h => by simp [spec_l8Place.l0] at h
 | k + 1 => by
  have ih0 := spec_l8Place.mono_l k
  ·intro y0 y1 y2
   unfold spec_l8Place.l0
   repeat' (first | (with_reducible first | exact ih0 _ _ _ | exact LeO.refl _ | exact LeO.none _ | refine LeO.ite ?_ ?_ | refine LeO.bind ?_ (fun _ => ?_)) | exact ih0 _ _ _ | exact LeO.none _ | refine LeO.ite ?_ ?_ | refine LeO.bind ?_ (fun _ => ?_))
theorem spec_l8Place.mono : ∀ a0 a1 k, LeO (spec_l8Place.f k a0 a1) (spec_l8Place.f (k + 1) a0 a1) := by
 intro a0 a1 k
 have ih0 := spec_l8Place.mono_l k
 unfold spec_l8Place.f
 repeat' (first | (with_reducible first | exact ih0 _ _ _ | exact LeO.refl _ | exact LeO.none _ | refine LeO.ite ?_ ?_ | refine LeO.bind ?_ (fun _ => ?_)) | exact ih0 _ _ _ | exact LeO.none _ | refine LeO.ite ?_ ?_ | refine LeO.bind ?_ (fun _ => ?_))
set_option maxHeartbeats 8000000 in
set_option maxRecDepth 100000 in
theorem spec_l8Place.calls (k : Nat) (A0 : Option Addr) (c0 : Nat) (l0 : List ByteArray) (a1 : ByteArray) (r : List ByteArray) (w : World) (hr0 : Kd.C Kd.string w A0 l0.length l0) (hc0 : l0.length ≤ c0) (h : spec_l8Place.f k l0 a1 = some r) :
  Calls Tryz.prog 114 #[.slice A0 l0.length c0, .string a1] w fun e w' => ∃ v0_ : Value, e = .returned (v0_) ∧ Kd.R Kd.string 9 w' w.heap.size (fun _ => True) v0_ r ∧ Below w.heap.size w w' := by
 have HR0 := Aside0.mk hr0; have HC0 := Aside0.mk hc0; clear hr0 hc0
 have HB := Aside0.mk (Below.refl w.heap.size w)
 have H : (spec_l8Place.l0 k l0 a1 0) = some r := h
 clear h
 have H' := Aside0.mk H
 clear H
 go_enter Tryz.func114, Tryz.ntmps114
 go_wp2
 go_loopg [5] k (fun kq v5 w' => ∃ (x5_1 : Int), v5 = .int .i64 x5_1 ∧ Aside0 (spec_l8Place.l0 kq l0 a1 x5_1 = some r) ∧ Aside0 (kq ≤ k) ∧ Aside0 (Below w.heap.size w w'))
 case atStart => exact ⟨(0), er, H', ⟨Nat.le_refl _⟩, ⟨belowd HB⟩⟩
 case round =>
  clear H'
  obtain ⟨x5_1, rfl, HA, HK1, HB⟩ := hrel
  cases gk with
  | zero => exact absurd HA.out (by simp [spec_l8Place.l0])
  | succ k1 =>
   have H := HA.out; clear HA
   simp only [spec_l8Place.l0] at H
   by_cases c3 : x5_1 < (l0.length : Int)
   ·rw [if_pos c3] at H
    have c3b0 : decide (x5_1 < (l0.length : Int)) = true := decide_eq_true c3
    clear c3; replace H := ifS H; obtain ⟨c4, H⟩ := H; have c4b0 := decide_eq_true c4; clear c4
    by_cases c5 : ((Op.bytesLess a1.toList ((rdOf ByteArray.empty l0 x5_1).toList)) = true)
    ·rw [if_pos c5] at H
     have c5b0 : (Op.bytesLess a1.toList ((rdOf ByteArray.empty l0 x5_1).toList)) = true := c5
     clear c5
     obtain ⟨y209, hy_⟩ : ∃ y_ : List ByteArray, y_ = (([] : List ByteArray)) := ⟨_, rfl⟩
     replace H : (if x5_1 ≤ (l0.length : Int) then (if y209.length + (l0.take (x5_1 : Int).toNat).length < 8796093022208 then ((some (y209 ++ (l0.take (x5_1 : Int).toNat) : List ByteArray)).bind fun y213 => (if y213.length < 8796093022208 then ((some (y213 ++ [a1] : List ByteArray)).bind fun y216 => (if y216.length + (l0.drop (x5_1 : Int).toNat).length < 8796093022208 then (some (y216 ++ (l0.drop (x5_1 : Int).toNat))) else (none))) else (none))) else (none)) else (none)) = some r := yH
     have Ny209 := ak hy_; clear hy_
     have c6b0 := eq_true (da : 0 ≤ x5_1)
     replace H := ifS H; obtain ⟨c7, H⟩ := H; have c7b0 := eq_true c7
     have c7b1 : decide (x5_1 ≤ (l0.length : Int)) = true := decide_eq_true c7
     clear c7; replace H := ifS H; obtain ⟨c8, H⟩ := H; have LMc8 := Aside0.mk c8; clear c8
     obtain ⟨y213, hy_⟩ : ∃ y_ : List ByteArray, y_ = (y209 ++ (l0.take (x5_1 : Int).toNat)) := ⟨_, rfl⟩
     replace H : (if y213.length < 8796093022208 then ((some (y213 ++ [a1] : List ByteArray)).bind fun y216 => (if y216.length + (l0.drop (x5_1 : Int).toNat).length < 8796093022208 then (some (y216 ++ (l0.drop (x5_1 : Int).toNat))) else (none))) else (none)) = some r := yH
     have Ny213 := ak hy_; clear hy_; replace H := ifS H; obtain ⟨c9, H⟩ := H; have LMc9 := Aside0.mk c9; clear c9
     obtain ⟨y216, hy_⟩ : ∃ y_ : List ByteArray, y_ = (y213 ++ [a1]) := ⟨_, rfl⟩
     replace H : (if y216.length + (l0.drop (x5_1 : Int).toNat).length < 8796093022208 then (some (y216 ++ (l0.drop (x5_1 : Int).toNat))) else (none)) = some r := yH
     have Ny216 := ak hy_; clear hy_
     have c10b0 := eq_true (da : 0 ≤ x5_1)
     have c11b0 := eq_true (da : x5_1 ≤ (l0.length : Int))
     replace H := ifS H; obtain ⟨c12, H⟩ := H; have LMc12 := Aside0.mk c12; clear c12
     obtain ⟨y220, hy_⟩ : ∃ y_ : List ByteArray, y_ = (y216 ++ (l0.drop (x5_1 : Int).toNat)) := ⟨_, rfl⟩
     replace H : (some y220) = some r := yH
     have Ny220 := ak hy_; clear hy_
     obtain rfl := Option.some.inj H
     have p208 : 0 ≤ (x5_1 : Int) := da
     have q208 : x5_1 < (l0.length : Int) := da
     obtain ⟨ad208, e208, hx208_0⟩ := Kd.at_string HR0.out x5_1 p208 q208
     cases e208
     replace hx208_0 := (HB.out.cell (World.block_lt_of_cell? w _ hx208_0)).trans hx208_0
     replace p208 := eq_true p208; replace q208 := eq_true q208
     go_wp2_with (first | ((with_reducible refine gate_dst (N := 21) rfl ?_); refine Kd.R_lit Kd.string _ 9 ?hg (N := 21) ?hd (xs := ([] : List ByteArray)) (inner := []) (ok := fun _ => True) (okp := fun _ => True) ?hr ?hp (fun _ hk => hk) trivial (Below.refl _ _) (Nat.le_refl _) (by simp) ?_; (case hd => rfl); (case hg => rfl); (case hr => first | (go_simp; done) | (go_simp; rfl)); (case hp => exact (Reps.none _ _)); intro v210 w13 ho14 hb hg_ hnew_; clear hg_ hnew_; (first | rw [← Ny209.out] at ho14 | (simp only [Int.reduceToNat] at ho14; rw [← Ny209.out] at ho14)); have HO211 := ak (Kd.R_lower ho14 (below_size (belowd HB))); replace HB := ak (below_step (belowd HB) hb); clear hb ho14; obtain ⟨i015, hi015, _, hsz15, _⟩ := info_parts info9; obtain ⟨hcut15, hA15, hC15⟩ := print_take_of (P := Tryz.prog) Value.string (⟨#[]⟩ : ByteArray) 62 9 .i64 Tryz.underlying62 hi015 hsz15 (some ad208) c0 l0 x5_1 (da) (da) HC0.out; have HR212 := Aside0.mk (Kd.C_of_reads (h1 := fun _ => rfl) (hA15 _ (Kd.reads_of_C HR0.out))); have HC212 := Aside0.mk hC15; clear hA15 hC15 hi015 hsz15) | ((with_reducible refine gate_builtin (b := .append) (xs := #[.tmp 21, .tmp 24]) rfl ?_); at_builtin; refine Kd.R_append_rows Kd.string (w0 := w) w.heap.size rfl (.tmp 21) (.tmp 24) 62 9 (.string ⟨#[]⟩) 16 rfl Tryz.underlying62 info9 rfl (by decide) (by omega) v210 y209 (l0.take (x5_1 : Int).toNat) _ _ _ (fun _ => True) (fun _ => False) rfl rfl ?aO ?aR (fun _ _ h => h) (fun _ h => h.elim) ?aF ?aB ?aS ?aL ?_; (case aR => first | (refine Eq.mp (congrArg (fun z_ => ReadsRow _ _ _ _ z_ _) (show (l0.take (x5_1 : Int).toNat).length = x5_1.toNat from (by rw [List.length_take]; have h_ : (x5_1 : Int) ≤ (l0.length : Int) := da; omega))) ?_; exact cd (Kd.C_below HR212.out HB.out)) | (rw [← show (l0.take (x5_1 : Int).toNat).length = x5_1.toNat from (by rw [List.length_take]; have h_ : (x5_1 : Int) ≤ (l0.length : Int) := da; omega)]; exact cd (Kd.C_below HR212.out HB.out)) | (exact cd (Kd.C_below HR212.out HB.out))); (case aB => exact (belowd HB)); (case aF => exact (fun _ _ => trivial)); (case aO => exact (rdl HO211)); (case aS => exact (below_size (belowd HB))); (case aL => have := LMc8.out; have hlx_ := (show (l0.take (x5_1 : Int).toNat).length = x5_1.toNat from (by rw [List.length_take]; have h_ : (x5_1 : Int) ≤ (l0.length : Int) := da; omega)); omega); intro v214 w16 ho hb hg hat; rw [← Ny213.out] at ho; replace HB := ak (hb); have HO215 := ak (ho); clear HO211; clear ho hb hg hat) | ((with_reducible refine gate_builtin (b := .append) (xs := #[.tmp 26, .tmp 28]) rfl ?_); at_builtin; refine Kd.R_append Kd.string (w0 := w) w.heap.size rfl (.tmp 26) (.tmp 28) 62 9 (.string ⟨#[]⟩) 16 rfl Tryz.underlying62 info9 rfl (by decide) (by omega) v214 y213 a1 [.string a1] (fun _ => True) (fun _ => False) rfl rfl ?aP (fun _ hk => hk.elim) ?aF ?aO ?aB ?aS ?aL ?_; (case aP => exact rfl); (case aB => exact (belowd HB)); (case aF => exact (fun _ _ => trivial)); (case aO => exact (rdl HO215)); (case aS => exact (below_size (belowd HB))); (case aL => have := LMc9.out; omega); intro v217 w17 ho hb hg hat; rw [← Ny216.out] at ho; replace HB := ak (hb); have HO218 := ak (ho); clear HO215; clear ho hb hg hat; obtain ⟨i018, hi018, _, hsz18, _⟩ := info_parts info9; obtain ⟨A18, hcut18, hA18, hC18⟩ := print_drop_of (P := Tryz.prog) Value.string (⟨#[]⟩ : ByteArray) 62 9 .i64 Tryz.underlying62 hi018 hsz18 (some ad208) c0 l0 x5_1 (da) (da) HC0.out; have HR219 := Aside0.mk (Kd.C_of_reads (h1 := fun _ => rfl) (hA18 _ (Kd.reads_of_C HR0.out))); have HC219 := Aside0.mk hC18; clear hA18 hC18 hi018 hsz18) | ((with_reducible refine gate_builtin (b := .append) (xs := #[.tmp 30, .tmp 33]) rfl ?_); at_builtin; refine Kd.R_append_rows Kd.string (w0 := w) w.heap.size rfl (.tmp 30) (.tmp 33) 62 9 (.string ⟨#[]⟩) 16 rfl Tryz.underlying62 info9 rfl (by decide) (by omega) v217 y216 (l0.drop (x5_1 : Int).toNat) _ _ _ (fun _ => True) (fun _ => False) rfl rfl ?aO ?aR (fun _ _ h => h) (fun _ h => h.elim) ?aF ?aB ?aS ?aL ?_; (case aR => first | (refine Eq.mp (congrArg (fun z_ => ReadsRow _ _ _ _ z_ _) (show (l0.drop (x5_1 : Int).toNat).length = (l0.length - x5_1.toNat) from List.length_drop)) ?_; exact cd (Kd.C_below HR219.out HB.out)) | (rw [← show (l0.drop (x5_1 : Int).toNat).length = (l0.length - x5_1.toNat) from List.length_drop]; exact cd (Kd.C_below HR219.out HB.out)) | (exact cd (Kd.C_below HR219.out HB.out))); (case aB => exact (belowd HB)); (case aF => exact (fun _ _ => trivial)); (case aO => exact (rdl HO218)); (case aS => exact (below_size (belowd HB))); (case aL => have := LMc12.out; have hlx_ := (show (l0.drop (x5_1 : Int).toNat).length = (l0.length - x5_1.toNat) from List.length_drop); omega); intro v221 w19 ho hb hg hat; rw [← Ny220.out] at ho; replace HB := ak (hb); have HO222 := ak (ho); clear HO218; clear ho hb hg hat))
     go_ret
     exact ⟨_, er2, by (with_reducible repeat (first | apply Kd.R_alloc | apply Kd.R_drewN | apply Kd.R_drew)); exact HO222.out, belowd HB⟩
    ·rw [if_neg c5] at H
     have c5b0 : (Op.bytesLess a1.toList ((rdOf ByteArray.empty l0 x5_1).toList)) = false := by simpa using c5
     clear c5
     have H' := Aside0.mk H
     clear H
     have p208 : 0 ≤ (x5_1 : Int) := da
     have q208 : x5_1 < (l0.length : Int) := da
     obtain ⟨ad208, e208, hx208_0⟩ := Kd.at_string HR0.out x5_1 p208 q208
     cases e208
     replace hx208_0 := (HB.out.cell (World.block_lt_of_cell? w _ hx208_0)).trans hx208_0
     replace p208 := eq_true p208; replace q208 := eq_true q208; go_wp2
     go_roundg k1
     case measure => have := HK1.out; omega
     case rel => exact ⟨(wrap64 (x5_1 + 1)), er, H', ⟨by have := HK1.out; omega⟩, ⟨belowd HB⟩⟩
   ·rw [if_neg c3] at H
    have c3b0 : decide (x5_1 < (l0.length : Int)) = false := decide_eq_false c3
    clear c3
    obtain ⟨y223, hy_⟩ : ∃ y_ : List ByteArray, y_ = (([] : List ByteArray)) := ⟨_, rfl⟩
    replace H : (if 0 ≤ x5_1 then (if x5_1 ≤ (l0.length : Int) then (if y223.length + (l0.take (x5_1 : Int).toNat).length < 8796093022208 then ((some (y223 ++ (l0.take (x5_1 : Int).toNat) : List ByteArray)).bind fun y227 => (if y227.length < 8796093022208 then ((some (y227 ++ [a1] : List ByteArray)).bind fun y230 => (if y230.length + (l0.drop (x5_1 : Int).toNat).length < 8796093022208 then (some (y230 ++ (l0.drop (x5_1 : Int).toNat))) else (none))) else (none))) else (none)) else (none)) else (none)) = some r := yH
    have Ny223 := ak hy_; clear hy_; replace H := ifS H; obtain ⟨c20, H⟩ := H; have c20b0 := eq_true c20
    have c20b1 : decide (0 ≤ x5_1) = true := decide_eq_true c20
    clear c20; replace H := ifS H; obtain ⟨c21, H⟩ := H; have c21b0 := eq_true c21
    have c21b1 : decide (x5_1 ≤ (l0.length : Int)) = true := decide_eq_true c21
    clear c21; replace H := ifS H; obtain ⟨c22, H⟩ := H; have LMc22 := Aside0.mk c22; clear c22
    obtain ⟨y227, hy_⟩ : ∃ y_ : List ByteArray, y_ = (y223 ++ (l0.take (x5_1 : Int).toNat)) := ⟨_, rfl⟩
    replace H : (if y227.length < 8796093022208 then ((some (y227 ++ [a1] : List ByteArray)).bind fun y230 => (if y230.length + (l0.drop (x5_1 : Int).toNat).length < 8796093022208 then (some (y230 ++ (l0.drop (x5_1 : Int).toNat))) else (none))) else (none)) = some r := yH
    have Ny227 := ak hy_; clear hy_; replace H := ifS H; obtain ⟨c23, H⟩ := H; have LMc23 := Aside0.mk c23; clear c23
    obtain ⟨y230, hy_⟩ : ∃ y_ : List ByteArray, y_ = (y227 ++ [a1]) := ⟨_, rfl⟩
    replace H : (if y230.length + (l0.drop (x5_1 : Int).toNat).length < 8796093022208 then (some (y230 ++ (l0.drop (x5_1 : Int).toNat))) else (none)) = some r := yH
    have Ny230 := ak hy_; clear hy_
    have c24b0 := eq_true (da : 0 ≤ x5_1)
    have c25b0 := eq_true (da : x5_1 ≤ (l0.length : Int))
    replace H := ifS H; obtain ⟨c26, H⟩ := H; have LMc26 := Aside0.mk c26; clear c26
    obtain ⟨y234, hy_⟩ : ∃ y_ : List ByteArray, y_ = (y230 ++ (l0.drop (x5_1 : Int).toNat)) := ⟨_, rfl⟩
    replace H : (some y234) = some r := yH
    have Ny234 := ak hy_; clear hy_
    obtain rfl := Option.some.inj H
    go_wp2_with (first | ((with_reducible refine gate_dst (N := 21) rfl ?_); refine Kd.R_lit Kd.string _ 9 ?hg (N := 21) ?hd (xs := ([] : List ByteArray)) (inner := []) (ok := fun _ => True) (okp := fun _ => True) ?hr ?hp (fun _ hk => hk) trivial (Below.refl _ _) (Nat.le_refl _) (by simp) ?_; (case hd => rfl); (case hg => rfl); (case hr => first | (go_simp; done) | (go_simp; rfl)); (case hp => exact (Reps.none _ _)); intro v224 w27 ho28 hb hg_ hnew_; clear hg_ hnew_; (first | rw [← Ny223.out] at ho28 | (simp only [Int.reduceToNat] at ho28; rw [← Ny223.out] at ho28)); have HO225 := ak (Kd.R_lower ho28 (below_size (belowd HB))); replace HB := ak (below_step (belowd HB) hb); clear hb ho28; obtain ⟨i029, hi029, _, hsz29, _⟩ := info_parts info9; obtain ⟨hcut29, hA29, hC29⟩ := print_take_of (P := Tryz.prog) Value.string (⟨#[]⟩ : ByteArray) 62 9 .i64 Tryz.underlying62 hi029 hsz29 A0 c0 l0 x5_1 (da) (da) HC0.out; have HR226 := Aside0.mk (Kd.C_of_reads (h1 := fun _ => rfl) (hA29 _ (Kd.reads_of_C HR0.out))); have HC226 := Aside0.mk hC29; clear hA29 hC29 hi029 hsz29) | ((with_reducible refine gate_builtin (b := .append) (xs := #[.tmp 21, .tmp 24]) rfl ?_); at_builtin; refine Kd.R_append_rows Kd.string (w0 := w) w.heap.size rfl (.tmp 21) (.tmp 24) 62 9 (.string ⟨#[]⟩) 16 rfl Tryz.underlying62 info9 rfl (by decide) (by omega) v224 y223 (l0.take (x5_1 : Int).toNat) _ _ _ (fun _ => True) (fun _ => False) rfl rfl ?aO ?aR (fun _ _ h => h) (fun _ h => h.elim) ?aF ?aB ?aS ?aL ?_; (case aR => first | (refine Eq.mp (congrArg (fun z_ => ReadsRow _ _ _ _ z_ _) (show (l0.take (x5_1 : Int).toNat).length = x5_1.toNat from (by rw [List.length_take]; have h_ : (x5_1 : Int) ≤ (l0.length : Int) := da; omega))) ?_; exact cd (Kd.C_below HR226.out HB.out)) | (rw [← show (l0.take (x5_1 : Int).toNat).length = x5_1.toNat from (by rw [List.length_take]; have h_ : (x5_1 : Int) ≤ (l0.length : Int) := da; omega)]; exact cd (Kd.C_below HR226.out HB.out)) | (exact cd (Kd.C_below HR226.out HB.out))); (case aB => exact (belowd HB)); (case aF => exact (fun _ _ => trivial)); (case aO => exact (rdl HO225)); (case aS => exact (below_size (belowd HB))); (case aL => have := LMc22.out; have hlx_ := (show (l0.take (x5_1 : Int).toNat).length = x5_1.toNat from (by rw [List.length_take]; have h_ : (x5_1 : Int) ≤ (l0.length : Int) := da; omega)); omega); intro v228 w30 ho hb hg hat; rw [← Ny227.out] at ho; replace HB := ak (hb); have HO229 := ak (ho); clear HO225; clear ho hb hg hat) | ((with_reducible refine gate_builtin (b := .append) (xs := #[.tmp 26, .tmp 28]) rfl ?_); at_builtin; refine Kd.R_append Kd.string (w0 := w) w.heap.size rfl (.tmp 26) (.tmp 28) 62 9 (.string ⟨#[]⟩) 16 rfl Tryz.underlying62 info9 rfl (by decide) (by omega) v228 y227 a1 [.string a1] (fun _ => True) (fun _ => False) rfl rfl ?aP (fun _ hk => hk.elim) ?aF ?aO ?aB ?aS ?aL ?_; (case aP => exact rfl); (case aB => exact (belowd HB)); (case aF => exact (fun _ _ => trivial)); (case aO => exact (rdl HO229)); (case aS => exact (below_size (belowd HB))); (case aL => have := LMc23.out; omega); intro v231 w31 ho hb hg hat; rw [← Ny230.out] at ho; replace HB := ak (hb); have HO232 := ak (ho); clear HO229; clear ho hb hg hat; obtain ⟨i032, hi032, _, hsz32, _⟩ := info_parts info9; obtain ⟨A32, hcut32, hA32, hC32⟩ := print_drop_of (P := Tryz.prog) Value.string (⟨#[]⟩ : ByteArray) 62 9 .i64 Tryz.underlying62 hi032 hsz32 A0 c0 l0 x5_1 (da) (da) HC0.out; have HR233 := Aside0.mk (Kd.C_of_reads (h1 := fun _ => rfl) (hA32 _ (Kd.reads_of_C HR0.out))); have HC233 := Aside0.mk hC32; clear hA32 hC32 hi032 hsz32) | ((with_reducible refine gate_builtin (b := .append) (xs := #[.tmp 30, .tmp 33]) rfl ?_); at_builtin; refine Kd.R_append_rows Kd.string (w0 := w) w.heap.size rfl (.tmp 30) (.tmp 33) 62 9 (.string ⟨#[]⟩) 16 rfl Tryz.underlying62 info9 rfl (by decide) (by omega) v231 y230 (l0.drop (x5_1 : Int).toNat) _ _ _ (fun _ => True) (fun _ => False) rfl rfl ?aO ?aR (fun _ _ h => h) (fun _ h => h.elim) ?aF ?aB ?aS ?aL ?_; (case aR => first | (refine Eq.mp (congrArg (fun z_ => ReadsRow _ _ _ _ z_ _) (show (l0.drop (x5_1 : Int).toNat).length = (l0.length - x5_1.toNat) from List.length_drop)) ?_; exact cd (Kd.C_below HR233.out HB.out)) | (rw [← show (l0.drop (x5_1 : Int).toNat).length = (l0.length - x5_1.toNat) from List.length_drop]; exact cd (Kd.C_below HR233.out HB.out)) | (exact cd (Kd.C_below HR233.out HB.out))); (case aB => exact (belowd HB)); (case aF => exact (fun _ _ => trivial)); (case aO => exact (rdl HO232)); (case aS => exact (below_size (belowd HB))); (case aL => have := LMc26.out; have hlx_ := (show (l0.drop (x5_1 : Int).toNat).length = (l0.length - x5_1.toNat) from List.length_drop); omega); intro v235 w33 ho hb hg hat; rw [← Ny234.out] at ho; replace HB := ak (hb); have HO236 := ak (ho); clear HO232; clear ho hb hg hat))
    go_ret
    exact ⟨_, er2, by (with_reducible repeat (first | apply Kd.R_alloc | apply Kd.R_drewN | apply Kd.R_drew)); exact HO236.out, belowd HB⟩

/-! ### spec_l17Come: function 89 -/
def spec_l17Come.T3 : Bool × List (List Nat × List Nat) := (true, [([], []), ([0], [0]), ([], []), ([], []), ([3], [3]), ([], []), ([4, 5], [4, 5]), ([6], [6]), ([], []), ([7, 8], [7, 8]), ([1, 2, 0, 1, 2, 3, 4, 5, 6, 7, 8, 9], [1, 2]), ([10, 9, 9, 0, 1, 2, 3, 4, 5, 6, 7, 8, 9], [9, 10])])
def spec_l17Come.B3 : List Nat := [0, 1, 0, 0, 8, 0, 56, 120, 0, 504, 1023, 2047]
theorem spec_l17Come.tab3 : rtab .any (opsOf Tryz.f89 3) = spec_l17Come.T3 := by kernel_rfl
theorem spec_l17Come.bits3 : waitsOk spec_l17Come.T3.2 spec_l17Come.B3 = true := by kernel_rfl
def spec_l17Come.T4 : Bool × List (List Nat × List Nat) := (true, [([], []), ([0], [0]), ([], []), ([], []), ([3], [3]), ([], []), ([4, 5], [4, 5]), ([6], [6]), ([], []), ([7, 8], [7, 8]), ([1, 2, 0, 1, 2, 3, 4, 5, 6, 7, 8, 9], [1, 2]), ([10, 9, 9, 0, 1, 2, 3, 4, 5, 6, 7, 8, 9], [9, 10])])
def spec_l17Come.B4 : List Nat := [0, 1, 0, 0, 8, 0, 56, 120, 0, 504, 1023, 2047]
theorem spec_l17Come.tab4 : rtab .any (opsOf Tryz.f89 4) = spec_l17Come.T4 := by kernel_rfl
theorem spec_l17Come.bits4 : waitsOk spec_l17Come.T4.2 spec_l17Come.B4 = true := by kernel_rfl
def spec_l17Come.f (k : Nat) (n : Nt) (i : Int) (s : ByteArray) : Option Nt := if 0 ≤ i ∧ i < (n.ps.length : Int) ∧ i < (n.ss.length : Int) then (spec_l17Has.f k (n.ss.getD i.toNat []) s).bind fun b => if b = true ∨ (n.ss.getD i.toNat []).length = 100 then some n else (spec_l8Place.f k (n.ss.getD i.toNat []) s).bind fun S => (spec_l8Place.f k (n.ps.getD i.toNat []) s).bind fun P => some ⟨n.ks, n.ps.set i.toNat P, n.ss.set i.toNat S, n.ib, n.sd⟩ else none
theorem spec_l17Come.keeps {k : Nat} {n m : Nt} {i : Int} {s : ByteArray} (h : spec_l17Come.f k n i s = some m) : m.ks = n.ks ∧ m.ib = n.ib ∧ m.sd = n.sd := by
 unfold spec_l17Come.f at h
 replace h := ifS h; obtain ⟨-, h⟩ := h
 replace h := bS h; obtain ⟨b, -, h⟩ := h
 split at h
 ·obtain rfl := Option.some.inj h; exact ⟨rfl, rfl, rfl⟩
 ·replace h := bS h; obtain ⟨_, -, h⟩ := h; replace h := bS h; obtain ⟨_, -, h⟩ := h; obtain rfl := Option.some.inj h; exact ⟨rfl, rfl, rfl⟩
set_option maxHeartbeats 16000000 in
set_option maxRecDepth 100000 in
theorem spec_l17Come.calls {k : Nat} {v0 v1 v2 v3 : Value} {n m : Nt} {i : Int} {s : ByteArray} {L : List SA} {w0 w : World} (hs : Sep w0 w (netA v0 v1 v2 v3 n ++ L)) (h : spec_l17Come.f k n i s = some m) :
    Calls Tryz.prog 89 #[.agg #[v0, v1, v2, v3, .int .i64 n.sd], .int .i64 i, .string s] w fun e w' => e = .returned (.agg #[v0, v1, v2, v3, .int .i64 n.sd]) ∧ Sep w0 w' (netA v0 v1 v2 v3 m ++ L) := by
 have hu27 := Tryz.underlying27
 obtain ⟨ks, ps, ss, ib, sd⟩ := n
 have HS : Sep w0 w (rA KI 3 v0 ks :: sA KT 62 v1 ps :: sA KT 62 v2 ss :: sA KT 62 v3 ib :: L) := hs
 clear hs
 unfold spec_l17Come.f at h
 dsimp only at h ⊢
 replace h := ifS h; obtain ⟨⟨i0, i1, i2⟩, h⟩ := h
 obtain ⟨A0, c0, rfl⟩ := HS.slR 0
 obtain ⟨A3, c3, rfl⟩ := HS.slS 3
 obtain ⟨g1, q1, rfl⟩ := HS.addr 1 (hx := by omega)
 obtain ⟨g2, q2, rfl⟩ := HS.addr 2 (hx := by omega)
 have p0 : (0 ≤ i) = True := eq_true i0
 have p1 : (i < (ps.length : Int)) = True := eq_true i1
 have p2 : (i < (ss.length : Int)) = True := eq_true i2
 obtain ⟨AP, qP, HS, -, -⟩ := HS.fr1.lend i i0 i1
 obtain ⟨AS, qS, HS, -, -⟩ := HS.fr3.lend i i0 i2
 generalize hS : ss.getD i.toNat [] = S at HS h
 generalize hP : ps.getD i.toNat [] = P at HS h
 have GS := ak hS; have GP := ak hP; clear hS hP
 replace h := bS h; obtain ⟨b, T1, h⟩ := h
 by_cases hb : b = true ∨ S.length = 100
 ·rw [if_pos hb] at h
  obtain rfl := Option.some.inj h
  clear h
  have hl : b = false → ((S.length : Int) == 100) = true := fun e => beq_iff_eq.2 (by rcases hb with h | h; (rw [e] at h; cases h); omega)
  clear hb
  cases b
  all_goals
   first | replace hl := hl rfl | clear hl
   go_enter Tryz.func89, Tryz.ntmps89
   go_wp2_with (first | ((with_reducible refine gate_dst (N := 3) rfl ?_); refine boxev 3 #[.slice A0 ks.length c0, .slice (some ⟨g1, 0, none⟩) ps.length q1, .slice (some ⟨g2, 0, none⟩) ss.length q2, .slice A3 ib.length c3, .int .i64 sd] 27 ?_; intro b3 hg_ W_ ho_ hb_; replace HS := HS.box hg_ ho_ hb_; clear hg_ ho_ hb_; obtain ⟨z30, z31, z32, z33, z34, f30, f31, f32, f33, f34⟩ := box5 (HS.blk 0)) | ((with_reducible refine gate_dst (N := 6) rfl ?_); refine boxev 6 #[.slice none 0 0, .slice none 0 0, .slice none 0 0, .slice none 0 0, .int .i64 0] 27 ?_; intro b6 hg_ W_ ho_ hb_; replace HS := HS.box hg_ ho_ hb_; clear hg_ ho_ hb_; clear z30 z31 z32 z33 z34 f30 f31 f32 f33 f34; obtain ⟨z60, z61, z62, z63, z64, f60, f61, f62, f63, f64⟩ := box5 (HS.blk 0); clear z60 z61 z62 z63 z64 f60 f61 f62 f63 f64; obtain ⟨z60, z61, z62, z63, z64, f60, f61, f62, f63, f64⟩ := box5 (HS.blk 0); obtain ⟨z30, z31, z32, z33, z34, f30, f31, f32, f33, f34⟩ := box5 (HS.blk 1); obtain ⟨hcgs, hfgs⟩ := HS.fr2.hole i0 i2) | (go_at_call 83; have HC_ := spec_l17Has.calls k _ _ S s _ _ (HS.rdR 3).2.2 (HS.rdR 3).2.1 T1.out; refine HC_.mono ?_; clear HC_; rintro e W_ ⟨rfl, nd_, rfl⟩; replace HS := HS.drewN nd_; generalize World.drewN _ nd_ = W_ at HS ⊢; clear z60 z61 z62 z63 z64 f60 f61 f62 f63 f64 z30 z31 z32 z33 z34 f30 f31 f32 f33 f34 hcgs hfgs; obtain ⟨z60, z61, z62, z63, z64, f60, f61, f62, f63, f64⟩ := box5 (HS.blk 0); obtain ⟨z30, z31, z32, z33, z34, f30, f31, f32, f33, f34⟩ := box5 (HS.blk 1); obtain ⟨hcgs, hfgs⟩ := HS.fr2.hole i0 i2))
   have HF := HS.put5I 0 (.slice A0 ks.length c0) (.slice (some ⟨g1, 0, none⟩) ps.length q1) (.slice (some ⟨g2, 0, none⟩) ss.length q2) (.slice A3 ib.length c3) (.int .i64 sd)
   refine bodyPost_ret (results_cell_row rfl _ _ b6 27 #[.slice A0 ks.length c0, .slice (some ⟨g1, 0, none⟩) ps.length q1, .slice (some ⟨g2, 0, none⟩) ss.length q2, .slice A3 ib.length c3, .int .i64 sd] (0, 0) _ rfl (by exact (HF.blk 0).out) Tryz.underlying27 rfl (by kernel_rfl)) rfl ?_
   replace HS := HF
   replace HS := HS.fr3.fr3.back0 GS
   replace HS := HS.fr4.fr4.back0 GP
   replace HS := HS.fr2.tail
   replace HS := HS.fr2.tail
   exact ⟨rfl, HS.fr3.fr2.fr2.fr3⟩
 ·rw [if_neg hb] at h
  obtain ⟨hb1, hb2⟩ := not_or.1 hb
  obtain rfl : b = false := by simpa using hb1
  have hl : ((S.length : Int) == 100) = false := beq_eq_false_iff_ne.2 (fun e => hb2 (by omega))
  clear hb hb1 hb2
  replace h := bS h; obtain ⟨S', T2, h⟩ := h
  replace h := bS h; obtain ⟨P', T3, h⟩ := h
  obtain rfl := Option.some.inj h
  clear h
  go_enter Tryz.func89, Tryz.ntmps89
  go_upto_region 3 with (first | ((with_reducible refine gate_dst (N := 3) rfl ?_); refine boxev 3 #[.slice A0 ks.length c0, .slice (some ⟨g1, 0, none⟩) ps.length q1, .slice (some ⟨g2, 0, none⟩) ss.length q2, .slice A3 ib.length c3, .int .i64 sd] 27 ?_; intro b3 hg_ W_ ho_ hb_; replace HS := HS.box hg_ ho_ hb_; clear hg_ ho_ hb_; obtain ⟨z30, z31, z32, z33, z34, f30, f31, f32, f33, f34⟩ := box5 (HS.blk 0)) | ((with_reducible refine gate_dst (N := 6) rfl ?_); refine boxev 6 #[.slice none 0 0, .slice none 0 0, .slice none 0 0, .slice none 0 0, .int .i64 0] 27 ?_; intro b6 hg_ W_ ho_ hb_; replace HS := HS.box hg_ ho_ hb_; clear hg_ ho_ hb_; clear z30 z31 z32 z33 z34 f30 f31 f32 f33 f34; obtain ⟨z60, z61, z62, z63, z64, f60, f61, f62, f63, f64⟩ := box5 (HS.blk 0); clear z60 z61 z62 z63 z64 f60 f61 f62 f63 f64; obtain ⟨z60, z61, z62, z63, z64, f60, f61, f62, f63, f64⟩ := box5 (HS.blk 0); obtain ⟨z30, z31, z32, z33, z34, f30, f31, f32, f33, f34⟩ := box5 (HS.blk 1); obtain ⟨hcgs, hfgs⟩ := HS.fr2.hole i0 i2) | (go_at_call 83; have HC_ := spec_l17Has.calls k _ _ S s _ _ (HS.rdR 3).2.2 (HS.rdR 3).2.1 T1.out; refine HC_.mono ?_; clear HC_; rintro e W_ ⟨rfl, nd_, rfl⟩; replace HS := HS.drewN nd_; generalize World.drewN _ nd_ = W_ at HS ⊢; clear z60 z61 z62 z63 z64 f60 f61 f62 f63 f64 z30 z31 z32 z33 z34 f30 f31 f32 f33 f34 hcgs hfgs; obtain ⟨z60, z61, z62, z63, z64, f60, f61, f62, f63, f64⟩ := box5 (HS.blk 0); obtain ⟨z30, z31, z32, z33, z34, f30, f31, f32, f33, f34⟩ := box5 (HS.blk 1); obtain ⟨hcgs, hfgs⟩ := HS.fr2.hole i0 i2))
  clear z60 z61 z62 z63 z64 f60 f61 f62 f63 f64 z30 z31 z32 z33 z34 f30 f31 f32 f33 f34 hcgs hfgs
  obtain ⟨z30, z31, z32, z33, z34, f30, f31, f32, f33, f34⟩ := box5 (HS.blk 1)
  obtain ⟨hcgs, hfgs⟩ := HS.fr2.hole i0 i2
  refine start_ (n := 12) (S := fun w' => w'.cell? ⟨b3, 0, none⟩ = some (.slice A0 ks.length c0) ∧ w'.cell? ⟨b3, 1, none⟩ = some (.slice (some ⟨g1, 0, none⟩) ps.length q1) ∧ w'.cell? ⟨b3, 2, none⟩ = some (.slice (some ⟨g2, 0, none⟩) ss.length q2) ∧ w'.cell? ⟨b3, 3, none⟩ = some (.slice A3 ib.length c3) ∧ w'.cell? ⟨b3, 4, none⟩ = some (.int .i64 sd) ∧ w'.cell? ⟨g2, i.toNat, none⟩ = some (.slice AS S.length qS)) (ds := [11]) (bl 12 0) (by kernel_rfl) rfl rfl ⟨z30, z31, z32, z33, z34, hcgs⟩ (fun hHeld => ?_); refine with_tabW spec_l17Come.tab3 spec_l17Come.bits3 (fun HT_ HW_ => ?_)
  clear z30 z31 z32 z33 z34 f30 f31 f32 f33 f34 hcgs hfgs
  replace HS := HS.drew
  generalize World.drew _ = W9_ at HS hHeld ⊢
  refine pureA 0 (some 24) 12 1 HT_ ?_
  refine takeA 1 (some 25) 12 3 HT_ HW_ hHeld ?_ (hy := by rintro w' ⟨s0, s1, s2, s3, s4, s5⟩; go_simp; with_reducible rfl)
  refine pureA 2 (some 26) 12 7 HT_ ?_
  refine pureA 3 (some 27) 12 15 HT_ ?_
  refine takeA 4 (some 28) 12 31 HT_ HW_ hHeld ?_ (hy := by rintro w' ⟨s0, s1, s2, s3, s4, s5⟩; go_simp; with_reducible rfl)
  refine pureA 5 (some 29) 12 63 HT_ ?_
  refine pureA 6 (some 30) 12 127 HT_ ?_
  refine takeA 7 (some 31) 12 255 HT_ HW_ hHeld ?_ (hy := by rintro w' ⟨s0, s1, s2, s3, s4, s5⟩; go_simp; with_reducible rfl)
  refine pureA 8 (some 32) 12 511 HT_ ?_
  refine oneA 9 (some 33) 12 1023 HT_ (fun K hK => ?_)
  refine goes_ Tryz.func114 (by kernel_rfl) rfl #[.slice AS S.length qS, .string s] (by rfl) rfl rfl (by (try simp only [List.map_toArray, List.map_cons, List.map_nil]); first | done | rfl) ?_
  have HC_ := spec_l8Place.calls k _ _ S s S' _ (HS.rdR 3).2.2 (HS.rdR 3).2.1 T2.out
  refine HC_.mono ?_
  clear HC_ hHeld
  rintro e W_ ⟨u_, rfl, ho_, hb_⟩
  refine ⟨_, rfl, ?_⟩
  replace HS := HS.new (A := rA Kd.string 9 u_ S') hb_ ho_
  obtain ⟨AS1, qS1, rfl⟩ := HS.slR 0
  clear ho_ hb_
  obtain ⟨z30, z31, z32, z33, z34, f30, f31, f32, f33, f34⟩ := box5 (HS.blk 2)
  obtain ⟨hcgs, hfgs⟩ := HS.fr3.hole i0 i2
  refine hK.out _ _ ⟨z30, z31, z32, z33, z34, hcgs⟩ (fun hHeld => ?_)
  clear hK K z30 z31 z32 z33 z34 f30 f31 f32 f33 f34 hcgs hfgs
  refine norm_ (a' := ?_) ?_ ?_
  rotate_left
  ·show Act.put _ (some 33) _ = _
   simp only [Act.put, List.setIfInBounds_toArray, List.set_cons_zero, List.set_cons_succ, i64_w, i32_w]
   rfl
  refine pureA 10 (some 34) 12 2047 HT_ ?_
  refine last_ (i := 11) (N := none) (bl 12 4095) rfl rfl (one_of HT_.out (by kernel_rfl)) (by decide) (fun K hK => ?_)
  clear hHeld
  obtain ⟨hcgs, hfgs⟩ := HS.fr3.hole i0 i2
  refine skip_ (w1 := ?_) (by rfl) rfl ?_ ?_
  rotate_left
  ·go_simp
   rfl
  clear hcgs hfgs
  replace HS := HS.fr3.hput i0 i2 (.slice AS1 S'.length qS1) rfl
  refine hK.out _ _ ?_
  clear hK K
  refine done_ (done_of HT_.out (by kernel_rfl)) ?_
  clear HT_ HW_
  obtain ⟨W5_, e5_, H5_⟩ := HS.gen
  rw [e5_]
  clear HS e5_
  have HS := H5_
  clear H5_
  replace HS := HS.back
  replace HS := HS.fr3.tail
  go_upto_region 4 with fail
  obtain ⟨z30, z31, z32, z33, z34, f30, f31, f32, f33, f34⟩ := box5 (HS.blk 2)
  obtain ⟨hcgp, hfgp⟩ := HS.fr3.hole i0 i1
  refine start_ (n := 12) (S := fun w' => w'.cell? ⟨b3, 0, none⟩ = some (.slice A0 ks.length c0) ∧ w'.cell? ⟨b3, 1, none⟩ = some (.slice (some ⟨g1, 0, none⟩) ps.length q1) ∧ w'.cell? ⟨b3, 2, none⟩ = some (.slice (some ⟨g2, 0, none⟩) ss.length q2) ∧ w'.cell? ⟨b3, 3, none⟩ = some (.slice A3 ib.length c3) ∧ w'.cell? ⟨b3, 4, none⟩ = some (.int .i64 sd) ∧ w'.cell? ⟨g1, i.toNat, none⟩ = some (.slice AP P.length qP)) (ds := [11]) (bl 12 0) (by kernel_rfl) rfl rfl ⟨z30, z31, z32, z33, z34, hcgp⟩ (fun hHeld => ?_); refine with_tabW spec_l17Come.tab4 spec_l17Come.bits4 (fun HT_ HW_ => ?_)
  clear z30 z31 z32 z33 z34 f30 f31 f32 f33 f34 hcgp hfgp
  replace HS := HS.drew
  generalize World.drew _ = W9_ at HS hHeld ⊢
  refine pureA 0 (some 35) 12 1 HT_ ?_
  refine takeA 1 (some 36) 12 3 HT_ HW_ hHeld ?_ (hy := by rintro w' ⟨s0, s1, s2, s3, s4, s5⟩; go_simp; with_reducible rfl)
  refine pureA 2 (some 37) 12 7 HT_ ?_
  refine pureA 3 (some 38) 12 15 HT_ ?_
  refine takeA 4 (some 39) 12 31 HT_ HW_ hHeld ?_ (hy := by rintro w' ⟨s0, s1, s2, s3, s4, s5⟩; go_simp; with_reducible rfl)
  refine pureA 5 (some 40) 12 63 HT_ ?_
  refine pureA 6 (some 41) 12 127 HT_ ?_
  refine takeA 7 (some 42) 12 255 HT_ HW_ hHeld ?_ (hy := by rintro w' ⟨s0, s1, s2, s3, s4, s5⟩; go_simp; with_reducible rfl)
  refine pureA 8 (some 43) 12 511 HT_ ?_
  refine oneA 9 (some 44) 12 1023 HT_ (fun K hK => ?_)
  refine goes_ Tryz.func114 (by kernel_rfl) rfl #[.slice AP P.length qP, .string s] (by rfl) rfl rfl (by (try simp only [List.map_toArray, List.map_cons, List.map_nil]); first | done | rfl) ?_
  have HC_ := spec_l8Place.calls k _ _ P s P' _ (HS.rdR 4).2.2 (HS.rdR 4).2.1 T3.out
  refine HC_.mono ?_
  clear HC_ hHeld
  rintro e W_ ⟨u_, rfl, ho_, hb_⟩
  refine ⟨_, rfl, ?_⟩
  replace HS := HS.new (A := rA Kd.string 9 u_ P') hb_ ho_
  obtain ⟨AP1, qP1, rfl⟩ := HS.slR 0
  clear ho_ hb_
  obtain ⟨z30, z31, z32, z33, z34, f30, f31, f32, f33, f34⟩ := box5 (HS.blk 3)
  obtain ⟨hcgp, hfgp⟩ := HS.fr4.hole i0 i1
  refine hK.out _ _ ⟨z30, z31, z32, z33, z34, hcgp⟩ (fun hHeld => ?_)
  clear hK K z30 z31 z32 z33 z34 f30 f31 f32 f33 f34 hcgp hfgp
  refine norm_ (a' := ?_) ?_ ?_
  rotate_left
  ·show Act.put _ (some 44) _ = _
   simp only [Act.put, List.setIfInBounds_toArray, List.set_cons_zero, List.set_cons_succ, i64_w, i32_w]
   rfl
  refine pureA 10 (some 45) 12 2047 HT_ ?_
  refine last_ (i := 11) (N := none) (bl 12 4095) rfl rfl (one_of HT_.out (by kernel_rfl)) (by decide) (fun K hK => ?_)
  clear hHeld
  obtain ⟨hcgp, hfgp⟩ := HS.fr4.hole i0 i1
  refine skip_ (w1 := ?_) (by rfl) rfl ?_ ?_
  rotate_left
  ·go_simp
   rfl
  clear hcgp hfgp
  replace HS := HS.fr4.hput i0 i1 (.slice AP1 P'.length qP1) rfl
  refine hK.out _ _ ?_
  clear hK K
  refine done_ (done_of HT_.out (by kernel_rfl)) ?_
  clear HT_ HW_
  obtain ⟨W5_, e5_, H5_⟩ := HS.gen
  rw [e5_]
  clear HS e5_
  have HS := H5_
  clear H5_
  replace HS := HS.back
  replace HS := HS.fr4.tail
  obtain ⟨z60, z61, z62, z63, z64, f60, f61, f62, f63, f64⟩ := box5 (HS.blk 2)
  obtain ⟨z30, z31, z32, z33, z34, f30, f31, f32, f33, f34⟩ := box5 (HS.blk 3)
  go_wp2
  have HF := HS.put5I 2 (.slice A0 ks.length c0) (.slice (some ⟨g1, 0, none⟩) ps.length q1) (.slice (some ⟨g2, 0, none⟩) ss.length q2) (.slice A3 ib.length c3) (.int .i64 sd)
  refine bodyPost_ret (results_cell_row rfl _ _ b6 27 #[.slice A0 ks.length c0, .slice (some ⟨g1, 0, none⟩) ps.length q1, .slice (some ⟨g2, 0, none⟩) ss.length q2, .slice A3 ib.length c3, .int .i64 sd] (0, 0) _ rfl (by exact (HF.blk 2).out) Tryz.underlying27 rfl (by kernel_rfl)) rfl ?_
  replace HS := HF
  replace HS := HS.fr2.tail
  replace HS := HS.fr2.tail
  exact ⟨rfl, HS.fr3.fr2.fr2.fr3⟩

end Go.Proofs.YtihekdlcfohkkaaGreatDoor.QFnExactStepNet
