-- printed by this session's own program (wip/tools/pp.py: the kit's print.py with changes); Lean checks it
import Derived.Test.YtihekdlcfohkkaaGreatDoorQFnExactStepNetx0
import Derived.Test.YtihekdlcfohkkaaGreatDoorQFnExactStepNetx1
import Derived.Test.YtihekdlcfohkkaaGreatDoorQFnExactStepNetx7
import Derived.Test.YtihekdlcfohkkaaGreatDoorQFnExactStepNetx9
namespace Go.Proofs.YtihekdlcfohkkaaGreatDoor.QFnExactStepNet
open Go.RowKit Go.Proofs.YtihekdlcfohkkaaGreatDoorW.PrintWords Go.Proofs.YtihekdlcfohkkaaGreatDoorW.PrintLast Go.Proofs.YtihekdlcfohkkaaGreatDoorW.PrintMore
attribute [local go_sem] max2_int min2_int max_two min_two max_three min_three max_four min_four strLss strGtr strLeq strGeq   -- for this text's walks alone
set_option linter.unusedVariables false
set_option linter.unusedSimpArgs false

/-! ### impl_mixText: function 139 -/
def impl_mixText.l0 : Nat → List Int → Int → ByteArray → List Int → Int → Option (ByteArray)
  | 0, _, _, _, _, _ => none
  | k + 1, x0, x1, x2, x7, x8 => if x8 < (x2.size : Int) then (if 0 ≤ x8 then (if 0 ≤ (wrap64 (x8 + 1)) then (if (wrap64 (x8 + 1)) < (x2.size : Int) then ((impl_mix.f k x0 (Go.bits .xor .i64 (Go.bits .or .i64 (wrap64 ((wrap64 (bt x2 x8)) * 256)) (wrap64 (bt x2 (wrap64 (x8 + 1))))) x1)).bind fun t326 => ((some (([(t326 / 256) % 256, (t326) % 256] : List Int) : List Int)).bind fun y327 => (if x7.length + y327.length < 140737488355328 then (impl_mixText.l0 k x0 t326 x2 (x7 ++ y327) (wrap64 (x8 + 2))) else (none)))) else (none)) else (none)) else (none)) else (some (strOfNums x7))
def impl_mixText.f (k : Nat) (l0 : List Int) (a1 : Int) (a2 : ByteArray) : Option (ByteArray) := impl_mixText.l0 k l0 a1 a2 (([] : List Int)) 0
theorem impl_mixText.mono_l : ∀ k, (∀ y0 y1 y2 y3 y4, LeO (impl_mixText.l0 k y0 y1 y2 y3 y4) (impl_mixText.l0 (k + 1) y0 y1 y2 y3 y4))
 | 0 => fun _ _ _ _ _ r h => by simp [impl_mixText.l0] at h
 | k + 1 => by
  have ih0 := impl_mixText.mono_l k
  ·intro y0 y1 y2 y3 y4
   unfold impl_mixText.l0
   repeat' (first | (with_reducible first | exact ih0 _ _ _ _ _ | exact impl_mix.mono _ _ _ | exact LeO.refl _ | exact LeO.none _ | refine LeO.ite ?_ ?_ | refine LeO.bind ?_ (fun _ => ?_)) | exact ih0 _ _ _ _ _ | exact impl_mix.mono _ _ _ | exact LeO.none _ | refine LeO.ite ?_ ?_ | refine LeO.bind ?_ (fun _ => ?_))
theorem impl_mixText.mono : ∀ a0 a1 a2 k, LeO (impl_mixText.f k a0 a1 a2) (impl_mixText.f (k + 1) a0 a1 a2) := by
 intro a0 a1 a2 k
 have ih0 := impl_mixText.mono_l k
 unfold impl_mixText.f
 repeat' (first | (with_reducible first | exact ih0 _ _ _ _ _ | exact impl_mix.mono _ _ _ | exact LeO.refl _ | exact LeO.none _ | refine LeO.ite ?_ ?_ | refine LeO.bind ?_ (fun _ => ?_)) | exact ih0 _ _ _ _ _ | exact impl_mix.mono _ _ _ | exact LeO.none _ | refine LeO.ite ?_ ?_ | refine LeO.bind ?_ (fun _ => ?_))
set_option maxHeartbeats 8000000 in
set_option maxRecDepth 100000 in
theorem impl_mixText.calls (k : Nat) (A0 : Option Addr) (c0 : Nat) (l0 : List Int) (a1 : Int) (a2 : ByteArray) (r : ByteArray) (w : World) (hr0 : Kd.C (Kd.int .i64) w A0 l0.length l0) (hc0 : l0.length ≤ c0) (h : impl_mixText.f k l0 a1 a2 = some r) :
  Calls Tryz.prog 139 #[.slice A0 l0.length c0, .int .i64 a1, .string a2] w fun e w' => e = .returned (.string r) ∧ Below w.heap.size w w' := by
 have HR0 := Aside0.mk hr0; have HC0 := Aside0.mk hc0; clear hr0 hc0
 have HB := Aside0.mk (Below.refl w.heap.size w)
 have H : (impl_mixText.l0 k l0 a1 a2 (([] : List Int)) 0) = some r := h
 clear h
 obtain ⟨y323, hy_⟩ : ∃ y_ : List Int, y_ = (([] : List Int)) := ⟨_, rfl⟩
 replace H : (impl_mixText.l0 k l0 a1 a2 y323 0) = some r := yH
 have Ny323 := ak hy_; clear hy_
 have H' := Aside0.mk H
 clear H
 go_enter Tryz.func139, Tryz.ntmps139
 go_wp2_with (first | ((with_reducible refine gate_dst (N := 9) rfl ?_); refine Kd.R_lit (Kd.int .u8) _ 5 ?hg (N := 9) ?hd (xs := ([] : List Int)) (inner := []) (ok := fun _ => True) (okp := fun _ => True) ?hr ?hp (fun _ hk => hk) trivial (Below.refl _ _) (Nat.le_refl _) (by simp) ?_; (case hd => rfl); (case hg => rfl); (case hr => first | (go_simp; done) | (go_simp; rfl)); (case hp => exact (Reps.none _ _)); intro v324 w4 ho5 hb hg_ hnew_; clear hg_ hnew_; (first | rw [← Ny323.out] at ho5 | (simp only [Int.reduceToNat] at ho5; rw [← Ny323.out] at ho5)); have HO325 := ak (Kd.R_lower ho5 (below_size (belowd HB))); replace HB := ak (below_step (belowd HB) hb); clear hb ho5))
 repeat (go_quiet (first | ((with_reducible refine gate_dst (N := 9) rfl ?_); refine Kd.R_lit (Kd.int .u8) _ 5 ?hg (N := 9) ?hd (xs := ([] : List Int)) (inner := []) (ok := fun _ => True) (okp := fun _ => True) ?hr ?hp (fun _ hk => hk) trivial (Below.refl _ _) (Nat.le_refl _) (by simp) ?_; (case hd => rfl); (case hg => rfl); (case hr => first | (go_simp; done) | (go_simp; rfl)); (case hp => exact (Reps.none _ _)); intro v324 w4 ho5 hb hg_ hnew_; clear hg_ hnew_; (first | rw [← Ny323.out] at ho5 | (simp only [Int.reduceToNat] at ho5; rw [← Ny323.out] at ho5)); have HO325 := ak (Kd.R_lower ho5 (below_size (belowd HB))); replace HB := ak (below_step (belowd HB) hb); clear hb ho5)); try go_wp2_with (first | ((with_reducible refine gate_dst (N := 9) rfl ?_); refine Kd.R_lit (Kd.int .u8) _ 5 ?hg (N := 9) ?hd (xs := ([] : List Int)) (inner := []) (ok := fun _ => True) (okp := fun _ => True) ?hr ?hp (fun _ hk => hk) trivial (Below.refl _ _) (Nat.le_refl _) (by simp) ?_; (case hd => rfl); (case hg => rfl); (case hr => first | (go_simp; done) | (go_simp; rfl)); (case hp => exact (Reps.none _ _)); intro v324 w4 ho5 hb hg_ hnew_; clear hg_ hnew_; (first | rw [← Ny323.out] at ho5 | (simp only [Int.reduceToNat] at ho5; rw [← Ny323.out] at ho5)); have HO325 := ak (Kd.R_lower ho5 (below_size (belowd HB))); replace HB := ak (below_step (belowd HB) hb); clear hb ho5)))
 go_loopg [1, 7, 8] k (fun kq v1 v7 v8 w' => ∃ (x1_1 : Int) (x7_1 : List Int) (x8_1 : Int), v1 = .int .i64 x1_1 ∧ v8 = .int .i64 x8_1 ∧ Aside0 (impl_mixText.l0 kq l0 x1_1 a2 x7_1 x8_1 = some r) ∧ Aside0 (kq ≤ k) ∧ Aside0 (Kd.R (Kd.int .u8) 5 w' w.heap.size (fun _ => True) v7 x7_1) ∧ Aside0 (Below w.heap.size w w'))
 case atStart => exact ⟨(a1), (y323), (0), er, er, H', ⟨Nat.le_refl _⟩, ⟨rdl HO325⟩, ⟨belowd HB⟩⟩
 case round =>
  clear H'
  obtain ⟨x1_1, x7_1, x8_1, rfl, rfl, HA, HK1, HO_7, HB⟩ := hrel
  cases gk with
  | zero => exact absurd HA.out (by simp [impl_mixText.l0])
  | succ k1 =>
   have H := HA.out; clear HA
   simp only [impl_mixText.l0] at H
   by_cases c6 : x8_1 < (a2.size : Int)
   ·rw [if_pos c6] at H
    have c6b0 : decide (x8_1 < (a2.size : Int)) = true := decide_eq_true c6
    clear c6; replace H := ifS H; obtain ⟨c7, H⟩ := H; have c7b0 := decide_eq_true c7; clear c7
    obtain ⟨ji9, hji9⟩ : ∃ j_ : Int, (wrap64 (x8_1 + 1)) = j_ := ⟨_, rfl⟩
    replace H : (if 0 ≤ (ji9) then (if (ji9) < (a2.size : Int) then ((impl_mix.f k1 l0 (Go.bits .xor .i64 (Go.bits .or .i64 (wrap64 ((wrap64 (bt a2 x8_1)) * 256)) (wrap64 (bt a2 (ji9)))) x1_1)).bind fun t326 => ((some (([(t326 / 256) % 256, (t326) % 256] : List Int) : List Int)).bind fun y327 => (if x7_1.length + y327.length < 140737488355328 then (impl_mixText.l0 k1 l0 t326 a2 (x7_1 ++ y327) (wrap64 (x8_1 + 2))) else (none)))) else (none)) else (none)) = some r := by first | (rw [hji9] at H; exact H) | (simp only [hji9] at H ⊢; exact H)
    have hji9w : (IntKind.i64.wrap (x8_1 + 1)) = ji9 := (i64_w _).trans hji9
    replace H := ifS H; obtain ⟨c10, H⟩ := H; have c10b0 := decide_eq_true c10; clear c10; replace H := ifS H; obtain ⟨c11, H⟩ := H; have c11b0 := decide_eq_true c11; clear c11; replace H := bS H; obtain ⟨t326, A13, H⟩ := H
    replace H : ((some (([(t326 / 256) % 256, (t326) % 256] : List Int) : List Int)).bind fun y327 => (if x7_1.length + y327.length < 140737488355328 then (impl_mixText.l0 k1 l0 t326 a2 (x7_1 ++ y327) (wrap64 (x8_1 + 2))) else (none))) = some r := H
    obtain ⟨y327, hy_⟩ : ∃ y_ : List Int, y_ = (([(t326 / 256) % 256, (t326) % 256] : List Int)) := ⟨_, rfl⟩
    replace H : (if x7_1.length + y327.length < 140737488355328 then (impl_mixText.l0 k1 l0 t326 a2 (x7_1 ++ y327) (wrap64 (x8_1 + 2))) else (none)) = some r := yH
    have Ny327 := ak hy_; clear hy_; replace H := ifS H; obtain ⟨c14, H⟩ := H; have LMc14 := Aside0.mk c14; clear c14
    obtain ⟨y330, hy_⟩ : ∃ y_ : List Int, y_ = (x7_1 ++ y327) := ⟨_, rfl⟩
    replace H : (impl_mixText.l0 k1 l0 t326 a2 y330 (wrap64 (x8_1 + 2))) = some r := yH
    have Ny330 := ak hy_; clear hy_
    have H' := Aside0.mk H
    clear H
    have p8 : 0 ≤ (x8_1 : Int) := da
    have q8 : x8_1 < (a2.size : Int) := da
    have hx8 := bt_at a2 x8_1
    replace p8 := eq_true p8; replace q8 := eq_true q8
    have p12 : 0 ≤ ((ji9) : Int) := da
    have q12 : (ji9) < (a2.size : Int) := da
    have hx12 := bt_at a2 (ji9)
    replace p12 := eq_true p12; replace q12 := eq_true q12
    go_wp2_with (first | (go_at_call 156; (with_reducible refine (impl_mix.calls k1 _ _ l0 (Go.bits .xor .i64 (Go.bits .or .i64 (wrap64 ((wrap64 (bt a2 x8_1)) * 256)) (wrap64 (bt a2 (ji9)))) x1_1) t326 _ ?side1 ?side2 A13.out).mono ?_); (case side1 => exact cd (Kd.C_below HR0.out HB.out)); (case side2 => exact HC0.out); rintro e w' ⟨rfl, ⟨nd, rfl⟩⟩; (try first | exact ⟨rfl, _, World.drewN_drewN _ _ _⟩ | exact ⟨rfl, _, Eq.trans (World.drewN_drewN _ _ _) (congrArg (World.drewN _) (Nat.add_assoc _ _ _))⟩)) | ((with_reducible refine gate_dst (N := 37) rfl ?_); refine Kd.R_lit (Kd.int .u8) _ 5 ?hg (N := 37) ?hd (xs := ([(t326 / 256) % 256, (t326) % 256] : List Int)) (inner := [.int .u8 ((t326 / 256) % 256), .int .u8 ((t326) % 256)]) (ok := fun _ => True) (okp := fun _ => True) ?hr ?hp (fun _ hk => hk) trivial (Below.refl _ _) (Nat.le_refl _) (by simp) ?_; (case hd => rfl); (case hg => rfl); (case hr => first | (go_simp; done) | (go_simp; rfl)); (case hp => exact (Reps.one (show Kd.M (Kd.int .u8) _ _ _ ((t326 / 256) % 256) [.int .u8 ((t326 / 256) % 256)] from rfl) (Reps.one (show Kd.M (Kd.int .u8) _ _ _ ((t326) % 256) [.int .u8 ((t326) % 256)] from rfl) (Reps.none _ _)))); intro v328 w15 ho16 hb hg_ hnew_; clear hg_ hnew_; (first | rw [← Ny327.out] at ho16 | (simp only [Int.reduceToNat] at ho16; rw [← Ny327.out] at ho16)); have HO329 := ak (Kd.R_lower (Kd.R_new' ho16 (Kd.R_lt (rdl HO_7))) (below_size (belowd HB))); replace HO_7 := ak (Kd.R_elder' (rdl HO_7) (Kd.R_base ho16) hb); replace HB := ak (below_step (belowd HB) hb); clear hb ho16; obtain ⟨Ao18, co18, eo18⟩ := Kd.R_slice HO329.out; subst eo18) | ((with_reducible refine gate_builtin (b := .append) (xs := #[.tmp 31, .tmp 37]) rfl ?_); at_builtin; refine Kd.R_append_rows (Kd.int .u8) (w0 := w) w.heap.size rfl (.tmp 31) (.tmp 37) 56 5 (.int .u8 0) 1 rfl Tryz.underlying56 info5 rfl (by decide) (by omega) u7 x7_1 y327 _ _ _ (fun k_ => some k_ ≠ (.slice Ao18 y327.length co18 : Value).ownBlock) (fun _ => False) rfl rfl ?aO ?aR (fun _ _ h => h) (fun _ h => h.elim) ?aF ?aB ?aS ?aL ?_; (case aR => exact cd (Kd.R_reads' HO329.out).2.2); (case aB => exact (belowd HB)); (case aF => exact (fun k_ hk => Kd.fresh' (Kd.R_lt (rdl HO329)) k_ hk)); (case aO => exact (by (with_reducible repeat (first | apply Kd.R_alloc | apply Kd.R_drewN | apply Kd.R_drew)); exact Kd.R_mono HO_7.out (fun _ hk => hk.2))); (case aS => exact (below_size (belowd HB))); (case aL => have := LMc14.out; omega); intro v331 w17 ho hb hg hat; rw [← Ny330.out] at ho; replace HO329 := ak (Kd.R_after (ok := (fun _ => True)) (rdl HO329) hg hat); replace HB := ak (hb); have HO332 := ak (ho); clear HO_7; clear ho hb hg hat))
    repeat (go_quiet (first | (go_at_call 156; (with_reducible refine (impl_mix.calls k1 _ _ l0 (Go.bits .xor .i64 (Go.bits .or .i64 (wrap64 ((wrap64 (bt a2 x8_1)) * 256)) (wrap64 (bt a2 (ji9)))) x1_1) t326 _ ?side1 ?side2 A13.out).mono ?_); (case side1 => exact cd (Kd.C_below HR0.out HB.out)); (case side2 => exact HC0.out); rintro e w' ⟨rfl, ⟨nd, rfl⟩⟩; (try first | exact ⟨rfl, _, World.drewN_drewN _ _ _⟩ | exact ⟨rfl, _, Eq.trans (World.drewN_drewN _ _ _) (congrArg (World.drewN _) (Nat.add_assoc _ _ _))⟩)) | ((with_reducible refine gate_dst (N := 37) rfl ?_); refine Kd.R_lit (Kd.int .u8) _ 5 ?hg (N := 37) ?hd (xs := ([(t326 / 256) % 256, (t326) % 256] : List Int)) (inner := [.int .u8 ((t326 / 256) % 256), .int .u8 ((t326) % 256)]) (ok := fun _ => True) (okp := fun _ => True) ?hr ?hp (fun _ hk => hk) trivial (Below.refl _ _) (Nat.le_refl _) (by simp) ?_; (case hd => rfl); (case hg => rfl); (case hr => first | (go_simp; done) | (go_simp; rfl)); (case hp => exact (Reps.one (show Kd.M (Kd.int .u8) _ _ _ ((t326 / 256) % 256) [.int .u8 ((t326 / 256) % 256)] from rfl) (Reps.one (show Kd.M (Kd.int .u8) _ _ _ ((t326) % 256) [.int .u8 ((t326) % 256)] from rfl) (Reps.none _ _)))); intro v328 w15 ho16 hb hg_ hnew_; clear hg_ hnew_; (first | rw [← Ny327.out] at ho16 | (simp only [Int.reduceToNat] at ho16; rw [← Ny327.out] at ho16)); have HO329 := ak (Kd.R_lower (Kd.R_new' ho16 (Kd.R_lt (rdl HO_7))) (below_size (belowd HB))); replace HO_7 := ak (Kd.R_elder' (rdl HO_7) (Kd.R_base ho16) hb); replace HB := ak (below_step (belowd HB) hb); clear hb ho16; obtain ⟨Ao18, co18, eo18⟩ := Kd.R_slice HO329.out; subst eo18) | ((with_reducible refine gate_builtin (b := .append) (xs := #[.tmp 31, .tmp 37]) rfl ?_); at_builtin; refine Kd.R_append_rows (Kd.int .u8) (w0 := w) w.heap.size rfl (.tmp 31) (.tmp 37) 56 5 (.int .u8 0) 1 rfl Tryz.underlying56 info5 rfl (by decide) (by omega) u7 x7_1 y327 _ _ _ (fun k_ => some k_ ≠ (.slice Ao18 y327.length co18 : Value).ownBlock) (fun _ => False) rfl rfl ?aO ?aR (fun _ _ h => h) (fun _ h => h.elim) ?aF ?aB ?aS ?aL ?_; (case aR => exact cd (Kd.R_reads' HO329.out).2.2); (case aB => exact (belowd HB)); (case aF => exact (fun k_ hk => Kd.fresh' (Kd.R_lt (rdl HO329)) k_ hk)); (case aO => exact (by (with_reducible repeat (first | apply Kd.R_alloc | apply Kd.R_drewN | apply Kd.R_drew)); exact Kd.R_mono HO_7.out (fun _ hk => hk.2))); (case aS => exact (below_size (belowd HB))); (case aL => have := LMc14.out; omega); intro v331 w17 ho hb hg hat; rw [← Ny330.out] at ho; replace HO329 := ak (Kd.R_after (ok := (fun _ => True)) (rdl HO329) hg hat); replace HB := ak (hb); have HO332 := ak (ho); clear HO_7; clear ho hb hg hat)); try go_wp2_with (first | (go_at_call 156; (with_reducible refine (impl_mix.calls k1 _ _ l0 (Go.bits .xor .i64 (Go.bits .or .i64 (wrap64 ((wrap64 (bt a2 x8_1)) * 256)) (wrap64 (bt a2 (ji9)))) x1_1) t326 _ ?side1 ?side2 A13.out).mono ?_); (case side1 => exact cd (Kd.C_below HR0.out HB.out)); (case side2 => exact HC0.out); rintro e w' ⟨rfl, ⟨nd, rfl⟩⟩; (try first | exact ⟨rfl, _, World.drewN_drewN _ _ _⟩ | exact ⟨rfl, _, Eq.trans (World.drewN_drewN _ _ _) (congrArg (World.drewN _) (Nat.add_assoc _ _ _))⟩)) | ((with_reducible refine gate_dst (N := 37) rfl ?_); refine Kd.R_lit (Kd.int .u8) _ 5 ?hg (N := 37) ?hd (xs := ([(t326 / 256) % 256, (t326) % 256] : List Int)) (inner := [.int .u8 ((t326 / 256) % 256), .int .u8 ((t326) % 256)]) (ok := fun _ => True) (okp := fun _ => True) ?hr ?hp (fun _ hk => hk) trivial (Below.refl _ _) (Nat.le_refl _) (by simp) ?_; (case hd => rfl); (case hg => rfl); (case hr => first | (go_simp; done) | (go_simp; rfl)); (case hp => exact (Reps.one (show Kd.M (Kd.int .u8) _ _ _ ((t326 / 256) % 256) [.int .u8 ((t326 / 256) % 256)] from rfl) (Reps.one (show Kd.M (Kd.int .u8) _ _ _ ((t326) % 256) [.int .u8 ((t326) % 256)] from rfl) (Reps.none _ _)))); intro v328 w15 ho16 hb hg_ hnew_; clear hg_ hnew_; (first | rw [← Ny327.out] at ho16 | (simp only [Int.reduceToNat] at ho16; rw [← Ny327.out] at ho16)); have HO329 := ak (Kd.R_lower (Kd.R_new' ho16 (Kd.R_lt (rdl HO_7))) (below_size (belowd HB))); replace HO_7 := ak (Kd.R_elder' (rdl HO_7) (Kd.R_base ho16) hb); replace HB := ak (below_step (belowd HB) hb); clear hb ho16; obtain ⟨Ao18, co18, eo18⟩ := Kd.R_slice HO329.out; subst eo18) | ((with_reducible refine gate_builtin (b := .append) (xs := #[.tmp 31, .tmp 37]) rfl ?_); at_builtin; refine Kd.R_append_rows (Kd.int .u8) (w0 := w) w.heap.size rfl (.tmp 31) (.tmp 37) 56 5 (.int .u8 0) 1 rfl Tryz.underlying56 info5 rfl (by decide) (by omega) u7 x7_1 y327 _ _ _ (fun k_ => some k_ ≠ (.slice Ao18 y327.length co18 : Value).ownBlock) (fun _ => False) rfl rfl ?aO ?aR (fun _ _ h => h) (fun _ h => h.elim) ?aF ?aB ?aS ?aL ?_; (case aR => exact cd (Kd.R_reads' HO329.out).2.2); (case aB => exact (belowd HB)); (case aF => exact (fun k_ hk => Kd.fresh' (Kd.R_lt (rdl HO329)) k_ hk)); (case aO => exact (by (with_reducible repeat (first | apply Kd.R_alloc | apply Kd.R_drewN | apply Kd.R_drew)); exact Kd.R_mono HO_7.out (fun _ hk => hk.2))); (case aS => exact (below_size (belowd HB))); (case aL => have := LMc14.out; omega); intro v331 w17 ho hb hg hat; rw [← Ny330.out] at ho; replace HO329 := ak (Kd.R_after (ok := (fun _ => True)) (rdl HO329) hg hat); replace HB := ak (hb); have HO332 := ak (ho); clear HO_7; clear ho hb hg hat)))
    go_roundg k1
    case measure => have := HK1.out; omega
    case rel => exact ⟨(t326), (y330), (wrap64 (x8_1 + 2)), er, er, H', ⟨by have := HK1.out; omega⟩, ⟨by (with_reducible repeat (first | apply Kd.R_alloc | apply Kd.R_drewN | apply Kd.R_drew)); exact Kd.R_mono HO332.out (fun _ hk => trivial)⟩, ⟨belowd HB⟩⟩
   ·rw [if_neg c6] at H
    have c6b0 : decide (x8_1 < (a2.size : Int)) = false := decide_eq_false c6
    clear c6
    obtain rfl := Option.some.inj H
    have hcv19 := own_string (P := Tryz.prog) Tryz.underlying56 Tryz.underlying5 Tryz.underlying9 (Kd.own_of_R HO_7.out)
    go_wp2
    repeat (go_quiet (fail); try go_wp2)
    go_ret
    exact ⟨er2, belowd HB⟩

/-! ### impl_pad: function 124 -/
def impl_pad.f (k : Nat) (a0 : Int) (a1 : Int) : Option (ByteArray) := (strings_Repeat.f k (⟨#[0]⟩ : ByteArray) a1).bind fun t336 => ((impl_mixText.f k (([a0, a0, a0] : List Int)) a0 t336).bind fun t337 => (some t337))
theorem impl_pad.mono : ∀ a0 a1 k, LeO (impl_pad.f k a0 a1) (impl_pad.f (k + 1) a0 a1) := by
 intro a0 a1 k
 unfold impl_pad.f
 repeat' (first | (with_reducible first | exact impl_mixText.mono _ _ _ _ | exact strings_Repeat.mono _ _ _ | exact LeO.refl _ | exact LeO.none _ | refine LeO.ite ?_ ?_ | refine LeO.bind ?_ (fun _ => ?_)) | exact impl_mixText.mono _ _ _ _ | exact strings_Repeat.mono _ _ _ | exact LeO.none _ | refine LeO.ite ?_ ?_ | refine LeO.bind ?_ (fun _ => ?_))
set_option maxHeartbeats 8000000 in
set_option maxRecDepth 100000 in
theorem impl_pad.calls (k : Nat) (a0 : Int) (a1 : Int) (r : ByteArray) (w : World) (h : impl_pad.f k a0 a1 = some r) :
  Calls Tryz.prog 124 #[.int .i64 a0, .int .i64 a1] w fun e w' => e = .returned (.string r) ∧ Below w.heap.size w w' := by
 have HB := Aside0.mk (Below.refl w.heap.size w)
 have H : ((strings_Repeat.f k (⟨#[0]⟩ : ByteArray) a1).bind fun t336 => ((impl_mixText.f k (([a0, a0, a0] : List Int)) a0 t336).bind fun t337 => (some t337))) = some r := h
 clear h
 obtain ⟨y333, hy_⟩ : ∃ y_ : List Int, y_ = (([a0, a0, a0] : List Int)) := ⟨_, rfl⟩
 replace H : ((strings_Repeat.f k (⟨#[0]⟩ : ByteArray) a1).bind fun t336 => ((impl_mixText.f k y333 a0 t336).bind fun t337 => (some t337))) = some r := yH
 have Ny333 := ak hy_; clear hy_; replace H := bS H; obtain ⟨t336, A3, H⟩ := H
 replace H : ((impl_mixText.f k y333 a0 t336).bind fun t337 => (some t337)) = some r := H
 replace H := bS H; obtain ⟨t337, A4, H⟩ := H
 replace H : (some t337) = some r := H
 obtain rfl := Option.some.inj H
 go_enter Tryz.func124, Tryz.ntmps124
 go_wp2_with (first | ((with_reducible refine gate_dst (N := 8) rfl ?_); refine Kd.R_lit (Kd.int .i64) _ 3 ?hg (N := 8) ?hd (xs := ([a0, a0, a0] : List Int)) (inner := [.int .i64 a0, .int .i64 a0, .int .i64 a0]) (ok := fun _ => True) (okp := fun _ => True) ?hr ?hp (fun _ hk => hk) trivial (Below.refl _ _) (Nat.le_refl _) (by simp) ?_; (case hd => rfl); (case hg => rfl); (case hr => first | (go_simp; done) | (go_simp; rfl)); (case hp => exact (Reps.one (show Kd.M (Kd.int .i64) _ _ _ a0 [.int .i64 a0] from rfl) (Reps.one (show Kd.M (Kd.int .i64) _ _ _ a0 [.int .i64 a0] from rfl) (Reps.one (show Kd.M (Kd.int .i64) _ _ _ a0 [.int .i64 a0] from rfl) (Reps.none _ _))))); intro v334 w5 ho6 hb hg_ hnew_; clear hg_ hnew_; (first | rw [← Ny333.out] at ho6 | (simp only [Int.reduceToNat] at ho6; rw [← Ny333.out] at ho6)); have HO335 := ak (Kd.R_lower ho6 (below_size (belowd HB))); replace HB := ak (below_step (belowd HB) hb); clear hb ho6) | ((with_reducible refine gate_callee (f := 132) rfl ?_); refine goesLa (some 11) rfl Tryz.func132 #[.string (⟨#[0]⟩ : ByteArray), .int .i64 a1] rfl ?_; (with_reducible refine (strings_Repeat.calls k (⟨#[0]⟩ : ByteArray) a1 t336 _ A3.out).mono ?_); rintro e w7 ⟨rfl, hb⟩; refine ⟨_, rfl, ?_⟩; replace HO335 := ak (Kd.R_below (rdl HO335) hb); replace HB := ak (below_step (belowd HB) hb); (try clear hb); obtain ⟨Ao8, co8, eo8⟩ := Kd.R_slice HO335.out; subst eo8) | ((with_reducible refine gate_callee (f := 139) rfl ?_); refine goesLa (some 12) rfl Tryz.func139 #[.slice Ao8 y333.length co8, .int .i64 a0, .string t336] rfl ?_; (with_reducible refine (impl_mixText.calls k _ _ y333 a0 t336 t337 _ ?side1 ?side2 A4.out).mono ?_); (case side1 => exact cd (Kd.R_reads' HO335.out).2.2); (case side2 => exact (Kd.R_reads' HO335.out).2.1); rintro e w9 ⟨rfl, hb⟩; refine ⟨_, rfl, ?_⟩; replace HO335 := ak (Kd.R_below (rdl HO335) hb); replace HB := ak (below_step (belowd HB) hb); (try clear hb)))
 go_ret
 exact ⟨er2, belowd HB⟩

/-! ### impl_isHop: function 125 -/
def impl_isHop.f (a0 : Int) : Option (Bool) := (impl_within.f a0 1 250).bind fun t338 => (some t338)
set_option maxHeartbeats 8000000 in
set_option maxRecDepth 100000 in
theorem impl_isHop.calls (a0 : Int) (r : Bool) (w : World) (h : impl_isHop.f a0 = some r) :
  Calls Tryz.prog 125 #[.int .i64 a0] w fun e w' => e = .returned (.bool r) ∧ Drawn0 w w' := by
 have H : ((impl_within.f a0 1 250).bind fun t338 => (some t338)) = some r := h
 clear h; replace H := bS H; obtain ⟨t338, A2, H⟩ := H
 replace H : (some t338) = some r := H
 obtain rfl := Option.some.inj H
 go_enter Tryz.func125, Tryz.ntmps125
 go_wp2_with (first | ((with_reducible refine gate_callee (f := 70) rfl ?_); refine goesLa (some 4) rfl Tryz.func70 #[.int .i64 a0, .int .i64 1, .int .i64 250] rfl ?_; (with_reducible refine (impl_within.calls a0 1 250 t338 _ A2.out).mono ?_); rintro e w' ⟨rfl, ⟨nd, rfl⟩⟩; refine ⟨_, rfl, ?_⟩))
 go_ret
 exact ⟨er, drw⟩

/-! ### impl_check: function 126 -/
def impl_check.l0 : Nat → ByteArray → Int → Int → Int → Option (Int)
  | 0, _, _, _, _ => none
  | k + 1, x0, x3, x6, x7 => if x7 < x6 then (if 0 ≤ x7 then (if x7 < (x0.size : Int) then (impl_check.l0 k x0 (wrap64 (x3 + (wrap64 ((wrap64 (bt x0 x7)) * (wrap64 (x7 + 1)))))) x6 (wrap64 (x7 + 1))) else (none)) else (none)) else (some (Int.tmod x3 251))
def impl_check.f (k : Nat) (a0 : ByteArray) : Option (Int) := impl_check.l0 k a0 0 (a0.size : Int) 0
theorem impl_check.mono_l : ∀ k, (∀ y0 y1 y2 y3, LeO (impl_check.l0 k y0 y1 y2 y3) (impl_check.l0 (k + 1) y0 y1 y2 y3))
 | 0 => fun _ _ _ _ r h => by simp [impl_check.l0] at h
 | k + 1 => by
  have ih0 := impl_check.mono_l k
  ·intro y0 y1 y2 y3
   unfold impl_check.l0
   repeat' (first | (with_reducible first | exact ih0 _ _ _ _ | exact LeO.refl _ | exact LeO.none _ | refine LeO.ite ?_ ?_ | refine LeO.bind ?_ (fun _ => ?_)) | exact ih0 _ _ _ _ | exact LeO.none _ | refine LeO.ite ?_ ?_ | refine LeO.bind ?_ (fun _ => ?_))
theorem impl_check.mono : ∀ a0 k, LeO (impl_check.f k a0) (impl_check.f (k + 1) a0) := by
 intro a0 k
 have ih0 := impl_check.mono_l k
 unfold impl_check.f
 repeat' (first | (with_reducible first | exact ih0 _ _ _ _ | exact LeO.refl _ | exact LeO.none _ | refine LeO.ite ?_ ?_ | refine LeO.bind ?_ (fun _ => ?_)) | exact ih0 _ _ _ _ | exact LeO.none _ | refine LeO.ite ?_ ?_ | refine LeO.bind ?_ (fun _ => ?_))
set_option maxHeartbeats 8000000 in
set_option maxRecDepth 100000 in
theorem impl_check.calls (k : Nat) (a0 : ByteArray) (r : Int) (w : World) (h : impl_check.f k a0 = some r) :
  Calls Tryz.prog 126 #[.string a0] w fun e w' => e = .returned (.int .i64 r) ∧ Drawn0 w w' := by
 have H : (impl_check.l0 k a0 0 (a0.size : Int) 0) = some r := h
 clear h
 have H' := Aside0.mk H
 clear H
 go_enter Tryz.func126, Tryz.ntmps126
 go_wp2
 go_loopg [3, 7] k (fun kq v3 v7 w' => ∃ (x3_1 : Int) (x7_1 : Int), v3 = .int .i64 x3_1 ∧ v7 = .int .i64 x7_1 ∧ Aside0 (impl_check.l0 kq a0 x3_1 (a0.size : Int) x7_1 = some r) ∧ Aside0 (kq ≤ k) ∧ Drawn0 w w')
 case atStart => exact ⟨(0), (0), er, er, H', ⟨Nat.le_refl _⟩, drw⟩
 case round =>
  clear H'
  obtain ⟨x3_1, x7_1, rfl, rfl, HA, HK1, ⟨m1, rfl⟩⟩ := hrel
  cases gk with
  | zero => exact absurd HA.out (by simp [impl_check.l0])
  | succ k1 =>
   have H := HA.out; clear HA
   simp only [impl_check.l0] at H
   by_cases c2 : x7_1 < (a0.size : Int)
   ·rw [if_pos c2] at H
    have c2b0 : decide (x7_1 < (a0.size : Int)) = true := decide_eq_true c2
    clear c2; replace H := ifS H; obtain ⟨c3, H⟩ := H; have c3b0 := decide_eq_true c3; clear c3; replace H := ifS H; obtain ⟨c4, H⟩ := H; have c4b0 := decide_eq_true c4; clear c4
    have H' := Aside0.mk H
    clear H
    have p5 : 0 ≤ (x7_1 : Int) := da
    have q5 : x7_1 < (a0.size : Int) := da
    have hx5 := bt_at a0 x7_1
    replace p5 := eq_true p5; replace q5 := eq_true q5; go_wp2
    go_roundg k1
    case measure => have := HK1.out; omega
    case rel => exact ⟨(wrap64 (x3_1 + (wrap64 ((wrap64 (bt a0 x7_1)) * (wrap64 (x7_1 + 1)))))), (wrap64 (x7_1 + 1)), er, er, H', ⟨by have := HK1.out; omega⟩, drw⟩
   ·rw [if_neg c2] at H
    have c2b0 : decide (x7_1 < (a0.size : Int)) = false := decide_eq_false c2
    clear c2
    obtain rfl := Option.some.inj H
    go_wp2
    go_ret
    exact ⟨er, drw⟩

/-! ### strings_TrimRight: function 140 -/
def strings_TrimRight.f (k : Nat) (a0 a1 : ByteArray) : Option ByteArray := match a1.data.toList with
  | [c] => if c.toNat < 128 then (if a0.size ≤ 9223372036854775807 then some ⟨(Lib.trimRightB a0.data.toList c).toArray⟩ else none) else none
  | _ => none
theorem strings_TrimRight.mono : ∀ a0 a1 k, LeO (strings_TrimRight.f k a0 a1) (strings_TrimRight.f (k + 1) a0 a1) := fun _ _ _ => LeO.refl _
theorem strings_TrimRight.calls (k : Nat) (a0 a1 : ByteArray) (r : ByteArray) (w : World) (h : strings_TrimRight.f k a0 a1 = some r) :
  Calls Tryz.prog 140 #[.string a0, .string a1] w fun e w' => e = .returned (.string r) ∧ Drawn0 w w' := by
 unfold strings_TrimRight.f at h
 split at h
 ·rename_i c hc
  replace h := ifS h; obtain ⟨h0, h⟩ := h
  replace h := ifS h; obtain ⟨h1, h⟩ := h
  obtain rfl := Option.some.inj h
  obtain rfl : a1 = ⟨#[c]⟩ := by
   cases a1 with | mk d => exact congrArg ByteArray.mk (Array.toList_inj.1 hc)
  refine (Any.strings_TrimRight_one strT a0 c h0 w h1).mono ?_
  rintro e w' ⟨rfl, rfl⟩
  exact ⟨rfl, drw⟩
 ·cases h

/-! ### strings_HasSuffix: function 141 -/
def strings_HasSuffix.f (k : Nat) (a0 a1 : ByteArray) : Option Bool := if a0.size ≤ 9223372036854775807 then some (Lib.hasSuffix a0.data.toList a1.data.toList) else none
theorem strings_HasSuffix.mono : ∀ a0 a1 k, LeO (strings_HasSuffix.f k a0 a1) (strings_HasSuffix.f (k + 1) a0 a1) := fun _ _ _ => LeO.refl _
theorem strings_HasSuffix.calls (k : Nat) (a0 a1 : ByteArray) (r : Bool) (w : World) (h : strings_HasSuffix.f k a0 a1 = some r) :
  Calls Tryz.prog 141 #[.string a0, .string a1] w fun e w' => e = .returned (.bool r) ∧ Drawn0 w w' := by
 unfold strings_HasSuffix.f at h
 replace h := ifS h; obtain ⟨h0, h⟩ := h
 obtain rfl := Option.some.inj h
 refine (Any.strings_HasSuffix strH a0 a1 w h0).mono ?_
 rintro e w' ⟨rfl, rfl⟩
 exact ⟨rfl, drw⟩

/-! ### impl_UnpadBody: function 127 -/
def impl_UnpadBody.f (k : Nat) (a0 : ByteArray) : Option (ByteArray × Bool) := (strings_TrimRight.f k a0 (⟨#[0]⟩ : ByteArray)).bind fun t339 => (if (a0.size : Int) = 16 then ((strings_HasSuffix.f k t339 (⟨#[128]⟩ : ByteArray)).bind fun t340 => (if t340 = true then (if 0 ≤ (wrap64 ((t339.size : Int) - 1)) then (if (wrap64 ((t339.size : Int) - 1)) ≤ (t339.size : Int) then (some (t339.extract 0 ((wrap64 ((t339.size : Int) - 1)) : Int).toNat, true)) else (none)) else (none)) else (some ((⟨#[]⟩ : ByteArray), false)))) else (some ((⟨#[]⟩ : ByteArray), false)))
theorem impl_UnpadBody.mono : ∀ a0 k, LeO (impl_UnpadBody.f k a0) (impl_UnpadBody.f (k + 1) a0) := by
 intro a0 k
 unfold impl_UnpadBody.f
 repeat' (first | (with_reducible first | exact strings_HasSuffix.mono _ _ _ | exact strings_TrimRight.mono _ _ _ | exact LeO.refl _ | exact LeO.none _ | refine LeO.ite ?_ ?_ | refine LeO.bind ?_ (fun _ => ?_)) | exact strings_HasSuffix.mono _ _ _ | exact strings_TrimRight.mono _ _ _ | exact LeO.none _ | refine LeO.ite ?_ ?_ | refine LeO.bind ?_ (fun _ => ?_))
set_option maxHeartbeats 8000000 in
set_option maxRecDepth 100000 in
theorem impl_UnpadBody.calls (k : Nat) (a0 : ByteArray) (r1 : ByteArray) (r2 : Bool) (w : World) (h : impl_UnpadBody.f k a0 = some (r1, r2)) :
  Calls Tryz.prog 127 #[.string a0] w fun e w' => e = .returned (.tuple #[.string r1, .bool r2]) ∧ Drawn0 w w' := by
 have H : ((strings_TrimRight.f k a0 (⟨#[0]⟩ : ByteArray)).bind fun t339 => (if (a0.size : Int) = 16 then ((strings_HasSuffix.f k t339 (⟨#[128]⟩ : ByteArray)).bind fun t340 => (if t340 = true then (if 0 ≤ (wrap64 ((t339.size : Int) - 1)) then (if (wrap64 ((t339.size : Int) - 1)) ≤ (t339.size : Int) then (some (t339.extract 0 ((wrap64 ((t339.size : Int) - 1)) : Int).toNat, true)) else (none)) else (none)) else (some ((⟨#[]⟩ : ByteArray), false)))) else (some ((⟨#[]⟩ : ByteArray), false)))) = some (r1, r2) := h
 clear h; replace H := bS H; obtain ⟨t339, A2, H⟩ := H
 replace H : (if (a0.size : Int) = 16 then ((strings_HasSuffix.f k t339 (⟨#[128]⟩ : ByteArray)).bind fun t340 => (if t340 = true then (if 0 ≤ (wrap64 ((t339.size : Int) - 1)) then (if (wrap64 ((t339.size : Int) - 1)) ≤ (t339.size : Int) then (some (t339.extract 0 ((wrap64 ((t339.size : Int) - 1)) : Int).toNat, true)) else (none)) else (none)) else (some ((⟨#[]⟩ : ByteArray), false)))) else (some ((⟨#[]⟩ : ByteArray), false))) = some (r1, r2) := H
 by_cases c3 : (a0.size : Int) = 16
 ·rw [if_pos c3] at H
  have c3b0 : ((a0.size : Int) == 16) = true := beq_iff_eq.mpr c3
  have c3b1 : ((a0.size : Int) != 16) = false := bne_eq_false_iff_eq.mpr c3
  clear c3; replace H := bS H; obtain ⟨t340, A4, H⟩ := H
  replace H : (if t340 = true then (if 0 ≤ (wrap64 ((t339.size : Int) - 1)) then (if (wrap64 ((t339.size : Int) - 1)) ≤ (t339.size : Int) then (some (t339.extract 0 ((wrap64 ((t339.size : Int) - 1)) : Int).toNat, true)) else (none)) else (none)) else (some ((⟨#[]⟩ : ByteArray), false))) = some (r1, r2) := H
  by_cases c5 : t340 = true
  ·subst c5
   have H1 : (if 0 ≤ (wrap64 ((t339.size : Int) - 1)) then (if (wrap64 ((t339.size : Int) - 1)) ≤ (t339.size : Int) then (some (t339.extract 0 ((wrap64 ((t339.size : Int) - 1)) : Int).toNat, true)) else (none)) else (none)) = some (r1, r2) := by rw [if_pos rfl] at H; exact H
   clear H
   have H := H1
   clear H1
   obtain ⟨ji6, hji6⟩ : ∃ j_ : Int, (wrap64 ((t339.size : Int) - 1)) = j_ := ⟨_, rfl⟩
   replace H : (if 0 ≤ (ji6) then (if (ji6) ≤ (t339.size : Int) then (some (t339.extract 0 ((ji6) : Int).toNat, true)) else (none)) else (none)) = some (r1, r2) := by first | (rw [hji6] at H; exact H) | (simp only [hji6] at H ⊢; exact H)
   (try rw [hji6] at A2)
   (try rw [hji6] at A4)
   have hji6w : (IntKind.i64.wrap ((t339.size : Int) - 1)) = ji6 := (i64_w _).trans hji6
   replace H := ifS H; obtain ⟨c7, H⟩ := H; have c7b0 := eq_true c7
   have c7b1 : decide (0 ≤ (ji6)) = true := decide_eq_true c7
   clear c7; replace H := ifS H; obtain ⟨c8, H⟩ := H; have c8b0 := eq_true c8
   have c8b1 : decide ((ji6) ≤ (t339.size : Int)) = true := decide_eq_true c8
   clear c8
   simp only [Option.some.injEq, Prod.mk.injEq] at H
   obtain ⟨rfl, rfl⟩ := H
   go_enter Tryz.func127, Tryz.ntmps127
   go_wp2_with (first | ((with_reducible refine gate_callee (f := 140) rfl ?_); refine goesLa (some 6) rfl Tryz.func140 #[.string a0, .string (⟨#[0]⟩ : ByteArray)] rfl ?_; (with_reducible refine (strings_TrimRight.calls k a0 (⟨#[0]⟩ : ByteArray) t339 _ A2.out).mono ?_); rintro e w' ⟨rfl, ⟨nd, rfl⟩⟩; refine ⟨_, rfl, ?_⟩) | (go_at_call 141; (with_reducible refine (strings_HasSuffix.calls k t339 (⟨#[128]⟩ : ByteArray) true _ A4.out).mono ?_); rintro e w' ⟨rfl, ⟨nd, rfl⟩⟩))
   go_ret2
   exact ⟨by first | rfl | (simp; done) | (simp only [← hji6] <;> (first | rfl | simp)) | (simp [*]; done), drw⟩
  ·replace c5 := Bool.eq_false_iff.mpr c5
   subst c5
   have H1 : (some ((⟨#[]⟩ : ByteArray), false)) = some (r1, r2) := by rw [if_neg (show ¬ (false = true) by decide)] at H; exact H
   clear H
   have H := H1
   clear H1
   simp only [Option.some.injEq, Prod.mk.injEq] at H
   obtain ⟨rfl, rfl⟩ := H
   go_enter Tryz.func127, Tryz.ntmps127
   go_wp2_with (first | ((with_reducible refine gate_callee (f := 140) rfl ?_); refine goesLa (some 6) rfl Tryz.func140 #[.string a0, .string (⟨#[0]⟩ : ByteArray)] rfl ?_; (with_reducible refine (strings_TrimRight.calls k a0 (⟨#[0]⟩ : ByteArray) t339 _ A2.out).mono ?_); rintro e w' ⟨rfl, ⟨nd, rfl⟩⟩; refine ⟨_, rfl, ?_⟩) | (go_at_call 141; (with_reducible refine (strings_HasSuffix.calls k t339 (⟨#[128]⟩ : ByteArray) false _ A4.out).mono ?_); rintro e w' ⟨rfl, ⟨nd, rfl⟩⟩))
   go_ret2
   exact ⟨er, drw⟩
 ·rw [if_neg c3] at H
  have c3b0 : ((a0.size : Int) == 16) = false := beq_eq_false_iff_ne.mpr c3
  have c3b1 : ((a0.size : Int) != 16) = true := bne_iff_ne.mpr c3
  simp only [Option.some.injEq, Prod.mk.injEq] at H
  obtain ⟨rfl, rfl⟩ := H
  go_enter Tryz.func127, Tryz.ntmps127
  go_wp2_with (first | ((with_reducible refine gate_callee (f := 140) rfl ?_); refine goesLa (some 6) rfl Tryz.func140 #[.string a0, .string (⟨#[0]⟩ : ByteArray)] rfl ?_; (with_reducible refine (strings_TrimRight.calls k a0 (⟨#[0]⟩ : ByteArray) t339 _ A2.out).mono ?_); rintro e w' ⟨rfl, ⟨nd, rfl⟩⟩; refine ⟨_, rfl, ?_⟩))
  go_ret2
  exact ⟨er, drw⟩

/-! ### impl_PeelOnion: function 115 -/
def impl_PeelOnion.T4 : Bool × List (List Nat × List Nat) := (true, [([], []), ([0], [0]), ([1], [1]), ([2], [2]), ([3], [3]), ([4, 3], [4]), ([5], [5]), ([6, 5], [5, 6]), ([7, 5], [5, 7]), ([5], [5]), ([9, 5], [5, 9]), ([10, 5, 5], [5, 10]), ([8, 11, 5], [5, 8, 11]), ([5, 12], [5, 12])])
def impl_PeelOnion.B4 : List Nat := [0, 1, 3, 7, 15, 31, 63, 127, 255, 63, 575, 1599, 4095, 8191]
theorem impl_PeelOnion.tab4 : rtab .any (opsOf Tryz.f115 4) = impl_PeelOnion.T4 := by kernel_rfl
theorem impl_PeelOnion.bits4 : waitsOk impl_PeelOnion.T4.2 impl_PeelOnion.B4 = true := by kernel_rfl
def impl_PeelOnion.f (k : Nat) (a0 : Int) (a1 : ByteArray) : Option (Int × ByteArray × ByteArray × Bool) := (impl_isKey.f a0).bind fun c0 => if c0 = true ∧ a1.size = 24 then (impl_pad.f k a0 24).bind fun p => (impl_xor.f k a1 p).bind fun t => if t.size = 24 then (impl_isHop.f (wrap64 (bt t 0))).bind fun c => if c = true then (impl_check.f k (t.extract 2 18)).bind fun d => if wrap64 (bt t 1) = d then (impl_UnpadBody.f k ((t.extract 2 t.size ++ (⟨#[0, 0]⟩ : ByteArray)).extract 0 16)).bind fun b => some (wrap64 (bt t 0), t.extract 2 t.size ++ (⟨#[0, 0]⟩ : ByteArray), b.1, true) else some (0, ⟨#[]⟩, ⟨#[]⟩, false) else some (0, ⟨#[]⟩, ⟨#[]⟩, false) else none else none
set_option maxHeartbeats 16000000 in
set_option maxRecDepth 100000 in
theorem impl_PeelOnion.calls (k : Nat) (a0 : Int) (a1 : ByteArray) (r1 : Int) (r2 : ByteArray) (r3 : ByteArray) (r4 : Bool) (w : World) (h : impl_PeelOnion.f k a0 a1 = some (r1, r2, r3, r4)) :
  Calls Tryz.prog 115 #[.int .i64 a0, .string a1] w fun e w' => e = .returned (.tuple #[.agg #[.int .i64 r1, .string r2, .string r3], .bool r4]) ∧ Below w.heap.size w w' := by
 have huP := Tryz.underlying105
 have HS := Sep.nil w
 unfold impl_PeelOnion.f at h
 replace h := bS h; obtain ⟨c0, T0, h⟩ := h
 replace h := ifS h; obtain ⟨⟨rfl, hz⟩, h⟩ := h
 replace h := bS h; obtain ⟨p, T1, h⟩ := h
 replace h := bS h; obtain ⟨t, T2, h⟩ := h
 replace h := ifS h; obtain ⟨ht, h⟩ := h
 replace h := bS h; obtain ⟨c, T3, h⟩ := h
 have hz1 : ((a1.size : Int) != 24) = false := by rw [hz]; rfl
 have q0 : (0 < t.size) = True := eq_true (by omega)
 have q1 : (1 < t.size) = True := eq_true (by omega)
 have qi0 : (0 < (t.size : Int)) = True := eq_true (by omega)
 have qi1 : (1 < (t.size : Int)) = True := eq_true (by omega)
 have x0 : ∀ h : 0 < t.size, ((t[0]'h).toNat : Int) = bt t 0 := bt_at t 0
 have x1 : ∀ h : 1 < t.size, ((t[1]'h).toNat : Int) = bt t 1 := bt_at t 1
 have hl1 : decide ((18 : Int) ≤ (t.size : Int)) = true := decide_eq_true (by omega)
 have hl2 : decide ((2 : Int) ≤ (t.size : Int)) = true := decide_eq_true (by omega)
 have hs2 : (t.extract 2 t.size).size = 22 := by rw [ByteArray.size_extract, ht]; rfl
 have hl3 : decide ((t.extract 2 t.size).size + 2 ≤ 9223372036854775807) = true := decide_eq_true (by omega)
 have hl4 : (9223372036854775807 < (t.extract 2 t.size).size + 2) = False := eq_false (by omega)
 have hl5 : decide ((16 : Int) ≤ ((t.extract 2 t.size ++ (⟨#[0, 0]⟩ : ByteArray)).size : Int)) = true := decide_eq_true (by rw [ByteArray.size_append, hs2]; decide)
 have hl6 : (2 ≤ (t.size : Int)) = True := eq_true (by omega)
 have hl7 : (18 ≤ (t.size : Int)) = True := eq_true (by omega)
 have hl8 : (16 ≤ ((t.extract 2 t.size ++ (⟨#[0, 0]⟩ : ByteArray)).size : Int)) = True := eq_true (by rw [ByteArray.size_append, hs2]; decide)
 have hl9 : (9223372036854775807 < t.size - 2 + 2) = False := eq_false (by omega)
 clear ht hz hs2 hl3 hl4
 go_enter Tryz.func115, Tryz.ntmps115
 go_upto_region 4 with (first | ((with_reducible refine gate_dst (N := 4) rfl ?_); refine boxev 4 #[.int .i64 0, .string (⟨#[]⟩ : ByteArray), .string (⟨#[]⟩ : ByteArray)] 105 ?_; intro b4 hg_ W_ ho_ hb_; replace HS := HS.box hg_ ho_ hb_; clear hg_ ho_ hb_; obtain ⟨z40, z41, z42, f40, f41, f42⟩ := box3 (HS.blk 0)) | (go_at_call 122; refine (impl_isKey.calls a0 true _ T0.out).mono ?_; rintro e W_ ⟨rfl, nd_, rfl⟩; replace HS := HS.drewN nd_; generalize World.drewN _ nd_ = W_ at HS ⊢; clear z40 z41 z42 f40 f41 f42; obtain ⟨z40, z41, z42, f40, f41, f42⟩ := box3 (HS.blk 0)) | (go_at_call 124; refine (impl_pad.calls k a0 24 p _ T1.out).mono ?_; rintro e W_ ⟨rfl, hb_⟩; replace HS := HS.below hb_; clear hb_; clear z40 z41 z42 f40 f41 f42; obtain ⟨z40, z41, z42, f40, f41, f42⟩ := box3 (HS.blk 0)) | (go_at_call 123; refine (impl_xor.calls k a1 p t _ T2.out).mono ?_; rintro e W_ ⟨rfl, hb_⟩; replace HS := HS.below hb_; clear hb_; clear z40 z41 z42 f40 f41 f42; obtain ⟨z40, z41, z42, f40, f41, f42⟩ := box3 (HS.blk 0)))
 clear z40 z41 z42 f40 f41 f42
 refine start_ (n := 14) (S := fun w' => True) (ds := []) (bl 14 0) (by kernel_rfl) rfl rfl trivial (fun hHeld => ?_); refine with_tabW impl_PeelOnion.tab4 impl_PeelOnion.bits4 (fun HT_ HW_ => ?_)
 replace HS := HS.drew
 generalize World.drew _ = W9_ at HS ⊢
 refine pureA 0 (some 22) 14 1 HT_ ?_
 refine pureA 1 (some 23) 14 3 HT_ ?_
 refine pureA 2 (some 24) 14 7 HT_ ?_
 refine oneA 3 (some 25) 14 15 HT_ (fun K hK => ?_)
 refine goes_ Tryz.func125 (by kernel_rfl) rfl #[.int .i64 (wrap64 (bt t 0))] (by rfl) rfl rfl (by (try simp only [List.map_toArray, List.map_cons, List.map_nil]); first | done | rfl) ?_
 refine (impl_isHop.calls (wrap64 (bt t 0)) c _ T3.out).mono ?_
 clear hHeld
 rintro e W_ ⟨rfl, nd_, rfl⟩
 refine ⟨_, rfl, ?_⟩
 replace HS := HS.drewN nd_
 generalize World.drewN _ nd_ = W_ at HS ⊢
 refine hK.out _ _ trivial (fun hHeld => ?_)
 clear hK K 
 refine norm_ (a' := ?_) ?_ ?_
 rotate_left
 ·show Act.put _ (some 25) _ = _
  simp only [Act.put, List.setIfInBounds_toArray, List.set_cons_zero, List.set_cons_succ, i64_w, i32_w]
  rfl
 refine pureA 4 (some 26) 14 31 HT_ ?_
 refine pureA 5 (some 27) 14 63 HT_ ?_
 cases c with
 | false =>
  rw [if_neg (by decide)] at h
  simp only [Bool.not_false]
  refine pureB 6 (some 28) 14 127 HT_ ?_
  refine pureB 7 (some 29) 14 255 HT_ ?_
  refine pureB 8 (some 30) 14 511 HT_ ?_
  refine pureB 9 (some 31) 14 1023 HT_ ?_
  refine pureB 10 (some 32) 14 2047 HT_ ?_
  refine pureB 11 (some 33) 14 4095 HT_ ?_
  refine pureB 12 (some 34) 14 8191 HT_ ?_
  refine pureA 13 (some 35) 14 16383 HT_ ?_
  refine done_ (done_of HT_.out (by kernel_rfl)) ?_
  clear HT_ HW_ hHeld
  obtain ⟨z40, z41, z42, f40, f41, f42⟩ := box3 (HS.blk 0)
  simp only [Option.some.injEq, Prod.mk.injEq] at h
  obtain ⟨rfl, rfl, rfl, rfl⟩ := h
  go_wp2
  have HF := (((HS.putI 0 0 (.int .i64 0) #[.int .i64 0, .string (⟨#[]⟩ : ByteArray), .string (⟨#[]⟩ : ByteArray)]).putI 0 1 (.string (⟨#[]⟩ : ByteArray)) #[.int .i64 0, .string (⟨#[]⟩ : ByteArray), .string (⟨#[]⟩ : ByteArray)]).putI 0 2 (.string (⟨#[]⟩ : ByteArray)) #[.int .i64 0, .string (⟨#[]⟩ : ByteArray), .string (⟨#[]⟩ : ByteArray)])
  refine bodyPost_ret (results_ct rfl _ _ b4 105 #[.int .i64 0, .string (⟨#[]⟩ : ByteArray), .string (⟨#[]⟩ : ByteArray)] (0, 0) _ rfl (by exact (HF.blk 0).out) Tryz.underlying105 rfl (by kernel_rfl)) rfl ?_
  exact ⟨rfl, HF.base⟩
 | true =>
  rw [if_pos rfl] at h
  simp only [Bool.not_true]
  replace h := bS h; obtain ⟨d, T4, h⟩ := h
  refine pureA 6 (some 28) 14 127 HT_ ?_
  refine pureA 7 (some 29) 14 255 HT_ ?_
  refine pureA 8 (some 30) 14 511 HT_ ?_
  refine pureA 9 (some 31) 14 1023 HT_ ?_
  refine pureA 10 (some 32) 14 2047 HT_ ?_
  refine oneA 11 (some 33) 14 4095 HT_ (fun K hK => ?_)
  refine goes_ Tryz.func126 (by kernel_rfl) rfl #[.string (t.extract 2 18)] (by rfl) rfl rfl (by (try simp only [List.map_toArray, List.map_cons, List.map_nil]); first | done | rfl) ?_
  refine (impl_check.calls k (t.extract 2 18) d _ T4.out).mono ?_
  clear hHeld
  rintro e W_ ⟨rfl, nd_, rfl⟩
  refine ⟨_, rfl, ?_⟩
  replace HS := HS.drewN nd_
  generalize World.drewN _ nd_ = W_ at HS ⊢
  refine hK.out _ _ trivial (fun hHeld => ?_)
  clear hK K 
  refine norm_ (a' := ?_) ?_ ?_
  rotate_left
  ·show Act.put _ (some 33) _ = _
   simp only [Act.put, List.setIfInBounds_toArray, List.set_cons_zero, List.set_cons_succ, i64_w, i32_w]
   rfl
  refine pureA 12 (some 34) 14 8191 HT_ ?_
  refine pureA 13 (some 35) 14 16383 HT_ ?_
  refine done_ (done_of HT_.out (by kernel_rfl)) ?_
  clear HT_ HW_ hHeld
  by_cases hc : wrap64 (bt t 1) = d
  ·rw [if_pos hc] at h
   have hcb : (wrap64 (bt t 1) != d) = false := by rw [hc]; exact bne_self_eq_false d
   simp only [hcb]
   replace h := bS h; obtain ⟨⟨b, b'⟩, T5, h⟩ := h
   obtain ⟨z40, z41, z42, f40, f41, f42⟩ := box3 (HS.blk 0)
   go_upto_region 7 with fail
   generalize hu : t.extract 2 t.size ++ (⟨#[0, 0]⟩ : ByteArray) = u at h T5 hl5 hl8 ⊢
   simp only [Option.some.injEq, Prod.mk.injEq] at h
   obtain ⟨rfl, rfl, rfl, rfl⟩ := h
   clear hc hu
   go_wp2_with (first | (go_at_call 127; refine (impl_UnpadBody.calls k _ b b' _ T5.out).mono ?_; rintro e W_ ⟨rfl, nd_, rfl⟩; replace HS := HS.drewN nd_; generalize World.drewN _ nd_ = W_ at HS ⊢; clear z40 z41 z42 f40 f41 f42; obtain ⟨z40, z41, z42, f40, f41, f42⟩ := box3 (HS.blk 0)))
   have HF := (((HS.putI 0 0 (.int .i64 (wrap64 (bt t 0))) #[.int .i64 (wrap64 (bt t 0)), .string (⟨#[]⟩ : ByteArray), .string (⟨#[]⟩ : ByteArray)]).putI 0 1 (.string u) #[.int .i64 (wrap64 (bt t 0)), .string u, .string (⟨#[]⟩ : ByteArray)]).putI 0 2 (.string b) #[.int .i64 (wrap64 (bt t 0)), .string u, .string b])
   refine bodyPost_ret (results_ct rfl _ _ b4 105 #[.int .i64 (wrap64 (bt t 0)), .string u, .string b] (0, 0) _ rfl (by exact (HF.blk 0).out) Tryz.underlying105 rfl (by kernel_rfl)) rfl ?_
   exact ⟨rfl, HF.base⟩
  ·rw [if_neg hc] at h
   have hcb : (wrap64 (bt t 1) != d) = true := bne_iff_ne.mpr hc
   simp only [hcb]
   clear hc
   obtain ⟨z40, z41, z42, f40, f41, f42⟩ := box3 (HS.blk 0)
   simp only [Option.some.injEq, Prod.mk.injEq] at h
   obtain ⟨rfl, rfl, rfl, rfl⟩ := h
   go_wp2
   have HF := (((HS.putI 0 0 (.int .i64 0) #[.int .i64 0, .string (⟨#[]⟩ : ByteArray), .string (⟨#[]⟩ : ByteArray)]).putI 0 1 (.string (⟨#[]⟩ : ByteArray)) #[.int .i64 0, .string (⟨#[]⟩ : ByteArray), .string (⟨#[]⟩ : ByteArray)]).putI 0 2 (.string (⟨#[]⟩ : ByteArray)) #[.int .i64 0, .string (⟨#[]⟩ : ByteArray), .string (⟨#[]⟩ : ByteArray)])
   refine bodyPost_ret (results_ct rfl _ _ b4 105 #[.int .i64 0, .string (⟨#[]⟩ : ByteArray), .string (⟨#[]⟩ : ByteArray)] (0, 0) _ rfl (by exact (HF.blk 0).out) Tryz.underlying105 rfl (by kernel_rfl)) rfl ?_
   exact ⟨rfl, HF.base⟩

/-! ### impl_Net_goOn: function 92 -/
def impl_Net_goOn.T0 : Bool × List (List Nat × List Nat) := (true, [([], []), ([0], [0]), ([1], [1]), ([2], [2]), ([], []), ([3, 4], [3, 4]), ([5], [5]), ([], []), ([], []), ([8], [8]), ([9], [9]), ([10], [10]), ([11], [11]), ([12], [12]), ([7, 13], [7, 13]), ([6, 0, 1, 2, 3, 4, 5, 6], [6]), ([14, 15, 0, 1, 2, 3, 4, 5, 6, 7, 8, 9, 10, 11, 12, 13, 14, 15], [14])])
def impl_Net_goOn.B0 : List Nat := [0, 1, 3, 7, 0, 31, 63, 0, 0, 256, 768, 1792, 3840, 7936, 16256, 127, 65535]
theorem impl_Net_goOn.tab0 : rtab .any (opsOf Tryz.f92 0) = impl_Net_goOn.T0 := by kernel_rfl
theorem impl_Net_goOn.bits0 : waitsOk impl_Net_goOn.T0.2 impl_Net_goOn.B0 = true := by kernel_rfl
def impl_Net_goOn.T11 : Bool × List (List Nat × List Nat) := (true, [([], []), ([0], [0]), ([1], [1]), ([2], [2]), ([], []), ([], []), ([5], [5]), ([6], [6]), ([7], [7]), ([], []), ([8, 9], [8, 9]), ([10], [10]), ([], []), ([12], [12]), ([13], [13]), ([11, 14], [11, 14]), ([3, 4, 0, 1, 2, 3, 4, 5, 6, 7, 8, 9, 10, 11, 12, 13, 14, 15], [3, 4]), ([16, 15, 15, 0, 1, 2, 3, 4, 5, 6, 7, 8, 9, 10, 11, 12, 13, 14, 15], [15, 16])])
def impl_Net_goOn.B11 : List Nat := [0, 1, 3, 7, 0, 0, 32, 96, 224, 0, 992, 2016, 0, 4096, 12288, 32736, 65535, 131071]
theorem impl_Net_goOn.tab11 : rtab .any (opsOf Tryz.f92 11) = impl_Net_goOn.T11 := by kernel_rfl
theorem impl_Net_goOn.bits11 : waitsOk impl_Net_goOn.T11.2 impl_Net_goOn.B11 = true := by kernel_rfl
def impl_Net_goOn.l0 (k : Nat) (i : Int) (z : Bool) : List ByteArray → Nt → Option Nt
  | [], n => some n
  | s :: r, n => if i < (n.ks.length : Int) then (impl_PeelOnion.f k (rd n.ks i) s).bind fun (x, y, b, o) => if o = false then impl_Net_goOn.l0 k i z r n else if z = false then (if x = 1 then (impl_Net_come.f k n (wrap64 (i + 1)) y).bind fun n' => impl_Net_goOn.l0 k i z r n' else impl_Net_goOn.l0 k i z r n) else (impl_within.f (wrap64 (x - 2)) 0 3).bind fun c => if c = false then impl_Net_goOn.l0 k i z r n else if b = (⟨#[]⟩ : ByteArray) then impl_Net_goOn.l0 k i z r n else if 0 ≤ wrap64 (x - 2) ∧ wrap64 (x - 2) < (n.ib.length : Int) then (if (n.ib.getD (wrap64 (x - 2)).toNat []).length < 60 then impl_Net_goOn.l0 k i z r ⟨n.ks, n.ps, n.ss, n.ib.set (wrap64 (x - 2)).toNat (n.ib.getD (wrap64 (x - 2)).toNat [] ++ [b]), n.sd⟩ else impl_Net_goOn.l0 k i z r n) else none else none
def impl_Net_goOn.f (k : Nat) (n : Nt) (i : Int) : Option Nt := if 0 ≤ i ∧ i < (n.ps.length : Int) ∧ i < (n.ks.length : Int) ∧ 0 < n.ib.length ∧ (n.ps.getD i.toNat []).length ≤ 1048576 then impl_Net_goOn.l0 k i (i == wrap64 ((n.ks.length : Int) - 1)) (n.ps.getD i.toNat []) ⟨n.ks, n.ps.set i.toNat [], n.ss, n.ib, n.sd⟩ else none
set_option maxHeartbeats 16000000 in
set_option maxRecDepth 100000 in
theorem impl_Net_goOn.calls {k : Nat} {v0 v1 v2 v3 : Value} {n m : Nt} {i : Int} {L : List SA} {w0 w : World} {b0 : Nat} (hs : Sep w0 w (bA b0 #[v0, v1, v2, v3, .int .i64 n.sd] 27 :: netA v0 v1 v2 v3 n ++ L)) (h : impl_Net_goOn.f k n i = some m) :
    Calls Tryz.prog 92 #[.pointer (some ⟨b0, 0, none⟩), .int .i64 i] w fun e w' => e = .returned (.tuple #[]) ∧ Sep w0 w' (bA b0 #[v0, v1, v2, v3, .int .i64 n.sd] 27 :: netA v0 v1 v2 v3 m ++ L) := by
 have hu27 := Tryz.underlying27
 obtain ⟨ks, ps, ss, ib, sd⟩ := n
 have HS : Sep w0 w (bA b0 #[v0, v1, v2, v3, .int .i64 sd] 27 :: rA KI 3 v0 ks :: sA KT 62 v1 ps :: sA KT 62 v2 ss :: sA KT 62 v3 ib :: L) := hs
 clear hs
 unfold impl_Net_goOn.f at h
 dsimp only at h ⊢
 replace h := ifS h; obtain ⟨⟨i0, i1, i2, i3, i4⟩, h⟩ := h
 obtain ⟨A2, c2, rfl⟩ := HS.slS 3
 obtain ⟨g0, q0, rfl⟩ := HS.addrR 1 (hx := by omega)
 obtain ⟨g1, q1, rfl⟩ := HS.addr 2 (hx := by omega)
 obtain ⟨g3, q3, rfl⟩ := HS.addr 4 (hx := by omega)
 have p0 : (0 ≤ i) = True := eq_true i0
 have p1 : (i < (ps.length : Int)) = True := eq_true i1
 have p2 : (i < (ks.length : Int)) = True := eq_true i2
 obtain ⟨AP, qP, HS, -, -⟩ := HS.fr2.lend i i0 i1
 generalize ps.getD i.toNat [] = P at HS h i4
 have I4 := ak i4; have H' := ak h; clear i4 h
 have hz_ : ∃ z, (i == wrap64 ((ks.length : Int) - 1)) = z := ⟨_, rfl⟩
 obtain ⟨z, hz⟩ := hz_
 rw [hz] at H'
 go_enter Tryz.func92, Tryz.ntmps92
 go_upto_region 0 with fail
 obtain ⟨z00, z01, z02, z03, z04, f00, f01, f02, f03, f04⟩ := box5 (HS.blk 2)
 obtain ⟨hcgp, hfgp⟩ := HS.hole i0 i1
 refine start_ (n := 17) (S := fun w' => w'.cell? ⟨b0, 0, none⟩ = some (.slice (some ⟨g0, 0, none⟩) ks.length q0) ∧ w'.cell? ⟨b0, 1, none⟩ = some (.slice (some ⟨g1, 0, none⟩) ps.length q1) ∧ w'.cell? ⟨b0, 2, none⟩ = some (.slice A2 ss.length c2) ∧ w'.cell? ⟨b0, 3, none⟩ = some (.slice (some ⟨g3, 0, none⟩) ib.length q3) ∧ w'.cell? ⟨b0, 4, none⟩ = some (.int .i64 sd) ∧ w'.cell? ⟨g1, i.toNat, none⟩ = some (.slice AP P.length qP)) (ds := []) (bl 17 0) (by kernel_rfl) rfl rfl ⟨z00, z01, z02, z03, z04, hcgp⟩ (fun hHeld => ?_); refine with_tabW impl_Net_goOn.tab0 impl_Net_goOn.bits0 (fun HT_ HW_ => ?_)
 clear z00 z01 z02 z03 z04 f00 f01 f02 f03 f04 hcgp hfgp
 replace HS := HS.drew
 generalize World.drew _ = W9_ at HS hHeld ⊢
 refine pureA 0 (some 11) 17 1 HT_ ?_
 refine pureA 1 (some 12) 17 3 HT_ ?_
 refine pureA 2 (some 13) 17 7 HT_ ?_
 refine takeA 3 (some 14) 17 15 HT_ HW_ hHeld ?_ (hy := by rintro w' ⟨s0, s1, s2, s3, s4, s5⟩; go_simp; with_reducible rfl)
 refine pureA 4 (some 15) 17 31 HT_ ?_
 refine pureA 5 (some 16) 17 63 HT_ ?_
 refine takeA 6 (some 17) 17 127 HT_ HW_ hHeld ?_ (hy := by rintro w' ⟨s0, s1, s2, s3, s4, s5⟩; go_simp; with_reducible rfl)
 refine pureA 7 (some 18) 17 255 HT_ ?_
 refine pureA 8 (some 19) 17 511 HT_ ?_
 refine pureA 9 (some 20) 17 1023 HT_ ?_
 refine pureA 10 (some 21) 17 2047 HT_ ?_
 refine takeA 11 (some 22) 17 4095 HT_ HW_ hHeld ?_ (hy := by rintro w' ⟨s0, s1, s2, s3, s4, s5⟩; go_simp; with_reducible rfl)
 refine pureA 12 (some 23) 17 8191 HT_ ?_
 refine pureA 13 (some 24) 17 16383 HT_ ?_
 refine pureA 14 (some 25) 17 32767 HT_ ?_
 refine pureA 15 (some 4) 17 65535 HT_ ?_
 refine pureA 16 (some 5) 17 131071 HT_ ?_
 refine done_ (done_of HT_.out (by kernel_rfl)) ?_
 clear HT_ HW_ hHeld
 obtain ⟨z00, z01, z02, z03, z04, f00, f01, f02, f03, f04⟩ := box5 (HS.blk 2)
 obtain ⟨hcgp, hfgp⟩ := HS.hole i0 i1
 go_upto_region 2 with fail
 clear z00 z01 z02 z03 z04 f00 f01 f02 f03 f04 hcgp hfgp
 replace HS := HS.hput i0 i1 (.slice none 0 0) rfl
 obtain ⟨W5_, e5_, H5_⟩ := HS.gen
 rw [e5_]
 clear HS e5_
 have HS := H5_
 clear H5_
 replace HS := HS.nilrow Kd.string 9
 replace HS := HS.fr1.back
 replace HS := HS.fr1.fr5.fr5.fr3.fr5.fr5
 try go_wp2
 go_loopg [34] P.length (fun kq v34 w' => ∃ (j : Nat) (ps' ss' ib' : List (List ByteArray)), v34 = .int .i64 (j : Int) ∧ Aside0 (impl_Net_goOn.l0 k i z (P.drop j) ⟨ks, ps', ss', ib', sd⟩ = some m) ∧ j ≤ P.length ∧ P.length - j ≤ kq ∧ ib'.length = ib.length ∧ Sep w0 w' (bA b0 #[.slice (some ⟨g0, 0, none⟩) ks.length q0, .slice (some ⟨g1, 0, none⟩) ps.length q1, .slice A2 ss.length c2, .slice (some ⟨g3, 0, none⟩) ib.length q3, .int .i64 sd] 27 :: rA KI 3 (.slice (some ⟨g0, 0, none⟩) ks.length q0) ks :: sA KT 62 (.slice (some ⟨g1, 0, none⟩) ps.length q1) ps' :: sA KT 62 (.slice A2 ss.length c2) ss' :: sA KT 62 (.slice (some ⟨g3, 0, none⟩) ib.length q3) ib' :: rA Kd.string 9 (.slice AP P.length qP) P :: L))
 case atStart => exact ⟨0, _, _, _, rfl, H', Nat.zero_le _, Nat.le_refl _, rfl, HS⟩
 case round =>
  clear HS H'
  obtain ⟨j, ps', ss', ib', rfl, HA, j1, j2, hib, HS⟩ := hrel
  have h := HA.out; clear HA
  by_cases hj : j < P.length
  ·obtain ⟨s, hsj⟩ : ∃ s, rdOf ByteArray.empty P (j : Int) = s := ⟨_, rfl⟩
   have hd : P.drop j = s :: P.drop (j + 1) := by rw [← hsj, List.drop_eq_getElem_cons hj]; simp [rdOf, List.getD_eq_getElem?_getD, List.getElem?_eq_getElem hj]
   rw [hd] at h
   simp only [impl_Net_goOn.l0] at h
   rw [if_pos i2] at h
   replace h := bS h; obtain ⟨⟨x, y, b, o⟩, T1, h⟩ := h
   obtain ⟨gP, qP', e⟩ := HS.addrR 5 (hx := by omega)
   obtain rfl : AP = some ⟨gP, 0, none⟩ := by injection e
   clear e
   have hjb : decide ((j : Int) < (P.length : Int)) = true := decide_eq_true (by omega)
   have pj0 : (0 ≤ (j : Int)) = True := eq_true (by omega)
   have pj1 : ((j : Int) < (P.length : Int)) = True := eq_true (by omega)
   have hp0 := HS.cellS 5 (n := P.length) (j : Int) (by omega) (by omega)
   rw [hsj] at hp0
   rw [Int.toNat_natCast] at hp0
   have hk0 := HS.cellI 1 i i0 i2
   obtain ⟨z00, z01, z02, z03, z04, f00, f01, f02, f03, f04⟩ := box5 (HS.blk 0)
   go_upto_region 6 with (first | (go_at_call 115; refine (impl_PeelOnion.calls k _ _ x y b o _ T1.out).mono ?_; rintro e W_ ⟨rfl, hb_⟩; replace HS := HS.below hb_; clear hb_ hp0 hk0; clear z00 z01 z02 z03 z04 f00 f01 f02 f03 f04; obtain ⟨z00, z01, z02, z03, z04, f00, f01, f02, f03, f04⟩ := box5 (HS.blk 0); have hk0 := HS.cellI 1 i i0 i2) | ((with_reducible refine gate_dst (N := 8) rfl ?_); refine boxev 8 #[.int .i64 0, .string (⟨#[]⟩ : ByteArray), .string (⟨#[]⟩ : ByteArray)] 105 ?_; intro b8 hg_ W_ ho_ hb_; replace HS := HS.box hg_ ho_ hb_; clear hg_ ho_ hb_; clear z00 z01 z02 z03 z04 f00 f01 f02 f03 f04; obtain ⟨z80, z81, z82, f80, f81, f82⟩ := box3 (HS.blk 0); clear hk0; clear z80 z81 z82 f80 f81 f82; obtain ⟨z00, z01, z02, z03, z04, f00, f01, f02, f03, f04⟩ := box5 (HS.blk 1); obtain ⟨z80, z81, z82, f80, f81, f82⟩ := box3 (HS.blk 0)))
   clear z00 z01 z02 z03 z04 f00 f01 f02 f03 f04 z80 z81 z82 f80 f81 f82
   obtain ⟨W5_, e5_, H5_⟩ := (((HS.putI 0 0 (.int .i64 x) #[.int .i64 x, .string (⟨#[]⟩ : ByteArray), .string (⟨#[]⟩ : ByteArray)]).putI 0 1 (.string y) #[.int .i64 x, .string y, .string (⟨#[]⟩ : ByteArray)]).putI 0 2 (.string b) #[.int .i64 x, .string y, .string b]).gen
   rw [e5_]
   clear HS e5_
   have HS := H5_
   clear H5_
   obtain ⟨z00, z01, z02, z03, z04, f00, f01, f02, f03, f04⟩ := box5 (HS.blk 1)
   obtain ⟨z80, z81, z82, f80, f81, f82⟩ := box3 (HS.blk 0)
   go_upto_region 7 with fail
   generalize wrap64 (x - 2) = u at h ⊢
   cases o with
   | false =>
    rw [if_pos rfl] at h
    go_wp2
    replace HS := HS.tail
    go_roundg (P.length - (j + 1))
    case measure => omega
    case rel => exact ⟨j + 1, ps', ss', ib', nw_next hj I4.out, ⟨h⟩, hj, Nat.le_refl _, hib, HS⟩
   | true =>
    rw [if_neg (by decide)] at h
    cases z with
    | false =>
     rw [if_pos rfl] at h
     by_cases hx : x = 1
     ·rw [if_pos hx] at h
      have hxb : (x == 1) = true := beq_iff_eq.2 hx
      clear hx
      replace h := bS h; obtain ⟨⟨ks1, ps1, ss1, ib1, sd1⟩, T3, h⟩ := h
      obtain ⟨e1, e2, e3⟩ := impl_Net_come.keeps T3.out
      dsimp only at e1 e2 e3
      replace e1 := e1.symm; replace e2 := e2.symm; replace e3 := e3.symm
      subst e1 e2 e3
      go_wp2_with (first | (go_at_call 98; have HC_ := impl_Net_come.calls (n := ⟨ks, ps', ss', ib', sd⟩) (HS.fr5.fr5.fr5.fr5.fr5) T3.out; refine HC_.mono ?_; clear HC_; rintro e W_ ⟨rfl, HS'_⟩; clear HS; have HS := HS'_; clear HS'_; dsimp only [netA, List.cons_append, List.nil_append] at HS; clear z00 z01 z02 z03 z04 f00 f01 f02 f03 f04 z80 z81 z82 f80 f81 f82; obtain ⟨z00, z01, z02, z03, z04, f00, f01, f02, f03, f04⟩ := box5 (HS.blk 0); obtain ⟨z80, z81, z82, f80, f81, f82⟩ := box3 (HS.blk 5)))
      replace HS := HS.fr5.tail
      go_roundg (P.length - (j + 1))
      case measure => omega
      case rel => exact ⟨j + 1, ps1, ss1, ib', nw_next hj I4.out, ⟨h⟩, hj, Nat.le_refl _, hib, HS⟩
     ·rw [if_neg hx] at h
      have hxb : (x == 1) = false := beq_eq_false_iff_ne.2 hx
      clear hx
      go_wp2
      replace HS := HS.tail
      go_roundg (P.length - (j + 1))
      case measure => omega
      case rel => exact ⟨j + 1, ps', ss', ib', nw_next hj I4.out, ⟨h⟩, hj, Nat.le_refl _, hib, HS⟩
    | true =>
     rw [if_neg (by decide)] at h
     replace h := bS h; obtain ⟨c, T2, h⟩ := h
     rcases Bool.eq_false_or_eq_true (x == 1) with hxb | hxb
     all_goals
      cases c with
      | false =>
       rw [if_pos rfl] at h
       go_wp2_with (first | (go_at_call 70; refine (impl_within.calls _ _ _ _ _ T2.out).mono ?_; rintro e W_ ⟨rfl, nd_, rfl⟩; replace HS := HS.drewN nd_; generalize World.drewN _ nd_ = W_ at HS ⊢; clear z00 z01 z02 z03 z04 f00 f01 f02 f03 f04 z80 z81 z82 f80 f81 f82; obtain ⟨z00, z01, z02, z03, z04, f00, f01, f02, f03, f04⟩ := box5 (HS.blk 1); obtain ⟨z80, z81, z82, f80, f81, f82⟩ := box3 (HS.blk 0)))
       replace HS := HS.tail
       go_roundg (P.length - (j + 1))
       case measure => omega
       case rel => exact ⟨j + 1, ps', ss', ib', nw_next hj I4.out, ⟨h⟩, hj, Nat.le_refl _, hib, HS⟩
      | true =>
       rw [if_neg (by decide)] at h
       by_cases hb : b = (⟨#[]⟩ : ByteArray)
       ·rw [if_pos hb] at h
        subst hb
        go_wp2_with (first | (go_at_call 70; refine (impl_within.calls _ _ _ _ _ T2.out).mono ?_; rintro e W_ ⟨rfl, nd_, rfl⟩; replace HS := HS.drewN nd_; generalize World.drewN _ nd_ = W_ at HS ⊢; clear z00 z01 z02 z03 z04 f00 f01 f02 f03 f04 z80 z81 z82 f80 f81 f82; obtain ⟨z00, z01, z02, z03, z04, f00, f01, f02, f03, f04⟩ := box5 (HS.blk 1); obtain ⟨z80, z81, z82, f80, f81, f82⟩ := box3 (HS.blk 0)))
        replace HS := HS.tail
        go_roundg (P.length - (j + 1))
        case measure => omega
        case rel => exact ⟨j + 1, ps', ss', ib', nw_next hj I4.out, ⟨h⟩, hj, Nat.le_refl _, hib, HS⟩
       ·rw [if_neg hb] at h
        have hbb := nw_nonempty hb
        clear hb
        replace h := ifS h; obtain ⟨⟨u0, u1⟩, h⟩ := h
        rw [hib] at u1
        have pu0 : (0 ≤ u) = True := eq_true u0
        have pu1 : (u < (ib.length : Int)) = True := eq_true u1
        obtain ⟨AI, qI, HS, -, -⟩ := HS.fr5.lend u u0 u1
        generalize hI : ib'.getD u.toNat [] = I at HS h
        have GI := ak hI; clear hI
        clear z00 z01 z02 z03 z04 f00 f01 f02 f03 f04 z80 z81 z82 f80 f81 f82
        obtain ⟨z00, z01, z02, z03, z04, f00, f01, f02, f03, f04⟩ := box5 (HS.blk 3)
        obtain ⟨z80, z81, z82, f80, f81, f82⟩ := box3 (HS.blk 2)
        obtain ⟨hcgi, hfgi⟩ := HS.hole u0 u1
        by_cases hn : I.length < 60
        ·rw [if_pos hn] at h
         have hnb : decide ((I.length : Int) < 60) = true := decide_eq_true (by omega)
         generalize hIb : I ++ [b] = I' at h
         go_upto_region 11 with (first | (go_at_call 70; refine (impl_within.calls _ _ _ _ _ T2.out).mono ?_; rintro e W_ ⟨rfl, nd_, rfl⟩; replace HS := HS.drewN nd_; generalize World.drewN _ nd_ = W_ at HS ⊢; clear z00 z01 z02 z03 z04 f00 f01 f02 f03 f04 z80 z81 z82 f80 f81 f82 hcgi hfgi; obtain ⟨z00, z01, z02, z03, z04, f00, f01, f02, f03, f04⟩ := box5 (HS.blk 3); obtain ⟨z80, z81, z82, f80, f81, f82⟩ := box3 (HS.blk 2); obtain ⟨hcgi, hfgi⟩ := HS.hole u0 u1))
         clear z00 z01 z02 z03 z04 f00 f01 f02 f03 f04 z80 z81 z82 f80 f81 f82 hcgi hfgi
         obtain ⟨z00, z01, z02, z03, z04, f00, f01, f02, f03, f04⟩ := box5 (HS.blk 3)
         obtain ⟨z80, z81, z82, f80, f81, f82⟩ := box3 (HS.blk 2)
         obtain ⟨hcgi, hfgi⟩ := HS.hole u0 u1
         refine start_ (n := 18) (S := fun w' => w'.cell? ⟨b0, 0, none⟩ = some (.slice (some ⟨g0, 0, none⟩) ks.length q0) ∧ w'.cell? ⟨b0, 1, none⟩ = some (.slice (some ⟨g1, 0, none⟩) ps.length q1) ∧ w'.cell? ⟨b0, 2, none⟩ = some (.slice A2 ss.length c2) ∧ w'.cell? ⟨b0, 3, none⟩ = some (.slice (some ⟨g3, 0, none⟩) ib.length q3) ∧ w'.cell? ⟨b0, 4, none⟩ = some (.int .i64 sd) ∧ w'.cell? ⟨b8, 0, none⟩ = some (.int .i64 x) ∧ w'.cell? ⟨b8, 1, none⟩ = some (.string y) ∧ w'.cell? ⟨b8, 2, none⟩ = some (.string b) ∧ w'.cell? ⟨g3, u.toNat, none⟩ = some (.slice AI I.length qI)) (ds := [17]) (bl 18 0) (by kernel_rfl) rfl rfl ⟨z00, z01, z02, z03, z04, z80, z81, z82, hcgi⟩ (fun hHeld => ?_); refine with_tabW impl_Net_goOn.tab11 impl_Net_goOn.bits11 (fun HT_ HW_ => ?_)
         clear z00 z01 z02 z03 z04 f00 f01 f02 f03 f04 z80 z81 z82 f80 f81 f82 hcgi hfgi
         replace HS := HS.drew
         generalize World.drew _ = W9_ at HS hHeld ⊢
         refine pureA 0 (some 92) 18 1 HT_ ?_
         refine pureA 1 (some 93) 18 3 HT_ ?_
         refine pureA 2 (some 94) 18 7 HT_ ?_
         refine takeA 3 (some 95) 18 15 HT_ HW_ hHeld ?_ (hy := by rintro w' ⟨s0, s1, s2, s3, s4, s5, s6, s7, s8⟩; go_simp; with_reducible rfl)
         refine pureA 4 (some 96) 18 31 HT_ ?_
         refine pureA 5 (some 97) 18 63 HT_ ?_
         refine pureA 6 (some 98) 18 127 HT_ ?_
         refine pureA 7 (some 99) 18 255 HT_ ?_
         refine takeA 8 (some 100) 18 511 HT_ HW_ hHeld ?_ (hy := by rintro w' ⟨s0, s1, s2, s3, s4, s5, s6, s7, s8⟩; go_simp; with_reducible rfl)
         refine pureA 9 (some 101) 18 1023 HT_ ?_
         refine pureA 10 (some 102) 18 2047 HT_ ?_
         refine takeA 11 (some 103) 18 4095 HT_ HW_ hHeld ?_ (hy := by rintro w' ⟨s0, s1, s2, s3, s4, s5, s6, s7, s8⟩; go_simp; with_reducible rfl)
         refine pureA 12 (some 104) 18 8191 HT_ ?_
         refine takeA 13 (some 105) 18 16383 HT_ HW_ hHeld ?_ (hy := by rintro w' ⟨s0, s1, s2, s3, s4, s5, s6, s7, s8⟩; go_simp; with_reducible rfl)
         refine oneA 14 (some 106) 18 32767 HT_ (fun K hK => ?_)
         clear hHeld
         refine Kd.R_lit_step Kd.string _ 9 ?hg (N := 106) ?hd (xs := ([b] : List ByteArray)) (inner := [.string b]) (ok := fun _ => True) (okp := fun _ => True) ?hr ?hp (fun _ hk => hk) trivial (Below.refl _ _) (Nat.le_refl _) (by simp) ?_
         (case hd => rfl)
         (case hg => rfl)
         (case hr => first | (go_simp; done) | (go_simp; rfl))
         (case hp => exact Reps.one (show Kd.M Kd.string _ _ _ b [.string b] from rfl) (Reps.none _ _))
         intro vU W_ ho_ hb_ _ _
         replace HS := HS.new (A := rA Kd.string 9 vU [b]) hb_ ho_
         clear ho_ hb_
         obtain ⟨AU, qU, rfl⟩ := HS.slR 0
         obtain ⟨z00, z01, z02, z03, z04, f00, f01, f02, f03, f04⟩ := box5 (HS.blk 4)
         obtain ⟨z80, z81, z82, f80, f81, f82⟩ := box3 (HS.blk 3)
         obtain ⟨hcgi, hfgi⟩ := HS.fr1.hole u0 u1
         refine hK.out _ _ ⟨z00, z01, z02, z03, z04, z80, z81, z82, hcgi⟩ (fun hHeld => ?_)
         clear hK K z00 z01 z02 z03 z04 f00 f01 f02 f03 f04 z80 z81 z82 f80 f81 f82 hcgi hfgi
         refine norm_ (a' := ?_) ?_ ?_
         rotate_left
         ·show Act.put _ (some 106) _ = _
          simp only [Act.put, List.setIfInBounds_toArray, List.set_cons_zero, List.set_cons_succ, i64_w, i32_w]
          rfl
         refine oneA 15 (some 107) 18 65535 HT_ (fun K hK => ?_)
         clear hHeld
         have HU := (HS.rdR 0).2.2
         replace HS := HS.fr2
         refine Sep.append Kd.string (by rfl) (.tmp 103) (.tmp 106) 62 9 (.string ⟨#[]⟩) 16 rfl Tryz.underlying62 info9 rfl (by decide) (by omega) (.slice AI I.length qI) I [b] AU 1 qU rfl rfl HS HU (fun _ _ _ _ h => h) (by omega) ?_
         clear HS HU
         intro vI W_ HS
         rw [hIb] at HS
         obtain ⟨AI1, qI1, rfl⟩ := HS.slR 0
         obtain ⟨z00, z01, z02, z03, z04, f00, f01, f02, f03, f04⟩ := box5 (HS.blk 4)
         obtain ⟨z80, z81, z82, f80, f81, f82⟩ := box3 (HS.blk 3)
         obtain ⟨hcgi, hfgi⟩ := HS.fr2.hole u0 u1
         refine hK.out _ _ ⟨z00, z01, z02, z03, z04, z80, z81, z82, hcgi⟩ (fun hHeld => ?_)
         clear hK K z00 z01 z02 z03 z04 f00 f01 f02 f03 f04 z80 z81 z82 f80 f81 f82 hcgi hfgi
         refine norm_ (a' := ?_) ?_ ?_
         rotate_left
         ·show Act.put _ (some 107) _ = _
          simp only [Act.put, List.setIfInBounds_toArray, List.set_cons_zero, List.set_cons_succ, i64_w, i32_w]
          rfl
         refine pureA 16 (some 108) 18 131071 HT_ ?_
         refine last_ (i := 17) (N := none) (bl 18 262143) rfl rfl (one_of HT_.out (by kernel_rfl)) (by decide) (fun K hK => ?_)
         clear hHeld
         obtain ⟨hcgi, hfgi⟩ := HS.fr2.hole u0 u1
         refine skip_ (w1 := ?_) (by rfl) rfl ?_ ?_
         rotate_left
         ·go_simp
          rfl
         clear hcgi hfgi
         replace HS := HS.fr2.hput u0 u1 (.slice AI1 I'.length qI1) rfl
         refine hK.out _ _ ?_
         clear hK K
         refine done_ (done_of HT_.out (by kernel_rfl)) ?_
         clear HT_ HW_
         obtain ⟨W5_, e5_, H5_⟩ := HS.gen
         rw [e5_]
         clear HS e5_
         have HS := H5_
         clear H5_
         replace HS := HS.back
         have hib1 : (ib'.set u.toNat I').length = ib.length := by rw [List.length_set]; exact hib
         go_wp2
         replace HS := HS.fr2.tail
         replace HS := HS.fr1.tail
         go_roundg (P.length - (j + 1))
         case measure => omega
         case rel => exact ⟨j + 1, ps', ss', ib'.set u.toNat I', nw_next hj I4.out, ⟨h⟩, hj, Nat.le_refl _, hib1, HS.fr5.fr1.fr5.fr5.fr5.fr5⟩
        ·rw [if_neg hn] at h
         have hnb : decide ((I.length : Int) < 60) = false := decide_eq_false (by omega)
         go_wp2_with (first | (go_at_call 70; refine (impl_within.calls _ _ _ _ _ T2.out).mono ?_; rintro e W_ ⟨rfl, nd_, rfl⟩; replace HS := HS.drewN nd_; generalize World.drewN _ nd_ = W_ at HS ⊢; clear z00 z01 z02 z03 z04 f00 f01 f02 f03 f04 z80 z81 z82 f80 f81 f82 hcgi hfgi; obtain ⟨z00, z01, z02, z03, z04, f00, f01, f02, f03, f04⟩ := box5 (HS.blk 3); obtain ⟨z80, z81, z82, f80, f81, f82⟩ := box3 (HS.blk 2); obtain ⟨hcgi, hfgi⟩ := HS.hole u0 u1))
         replace HS := HS.back0 GI
         replace HS := HS.fr1.tail
         go_roundg (P.length - (j + 1))
         case measure => omega
         case rel => exact ⟨j + 1, ps', ss', ib', nw_next hj I4.out, ⟨h⟩, hj, Nat.le_refl _, hib, HS.fr5.fr1.fr5.fr5.fr5.fr5⟩
  ·have hd : P.drop j = [] := List.drop_eq_nil_of_le (by omega)
   rw [hd] at h
   simp only [impl_Net_goOn.l0] at h
   obtain rfl := Option.some.inj h
   have hjb : decide ((j : Int) < (P.length : Int)) = false := decide_eq_false (by omega)
   obtain ⟨z00, z01, z02, z03, z04, f00, f01, f02, f03, f04⟩ := box5 (HS.blk 0)
   go_wp2
   refine bodyPost_end (results_none rfl _ _ _) rfl ?_
   replace HS := HS.fr5.tail
   exact ⟨rfl, HS⟩
theorem impl_Net_goOn.keeps_l {k : Nat} {i : Int} {z : Bool} : ∀ {P : List ByteArray} {n m : Nt}, impl_Net_goOn.l0 k i z P n = some m → m.ks = n.ks ∧ m.sd = n.sd
 | [], n, m, h => by
  simp only [impl_Net_goOn.l0] at h
  obtain rfl := Option.some.inj h
  exact ⟨rfl, rfl⟩
 | s :: r, n, m, h => by
  have ih : ∀ n' : Nt, impl_Net_goOn.l0 k i z r n' = some m → m.ks = n'.ks ∧ m.sd = n'.sd := fun n' h' => impl_Net_goOn.keeps_l h'
  simp only [impl_Net_goOn.l0] at h
  replace h := ifS h; obtain ⟨-, h⟩ := h
  replace h := bS h; obtain ⟨⟨x, y, b, o⟩, -, h⟩ := h
  dsimp only at h
  repeat' split at h
  all_goals
   first
   | exact ih _ h
   | (replace h := bS h; obtain ⟨n', T, h⟩ := h; obtain ⟨e1, e2, e3⟩ := impl_Net_come.keeps T.out; have := ih _ h; exact ⟨this.1.trans e1, this.2.trans e3⟩)
   | (replace h := bS h; obtain ⟨c, -, h⟩ := h; (repeat' split at h); (all_goals first | exact ih _ h | (have h2 := ih _ h; exact h2) | cases h))
theorem impl_Net_goOn.keeps {k : Nat} {n m : Nt} {i : Int} (h : impl_Net_goOn.f k n i = some m) : m.ks = n.ks ∧ m.sd = n.sd := by
 unfold impl_Net_goOn.f at h
 replace h := ifS h; obtain ⟨-, h⟩ := h
 exact impl_Net_goOn.keeps_l (n := ⟨n.ks, n.ps.set i.toNat [], n.ss, n.ib, n.sd⟩) h

/-! ### bits_Mul32: function 142 -/
def bits_Mul32.f (a0 : Int) (a1 : Int) : Option (Int × Int) := some (((IntKind.u64.wrap ((IntKind.u64.wrap (a0)) * (IntKind.u64.wrap (a1)))) / 4294967296) % 4294967296, (IntKind.u64.wrap ((IntKind.u64.wrap (a0)) * (IntKind.u64.wrap (a1)))) % 4294967296)
set_option maxHeartbeats 8000000 in
set_option maxRecDepth 100000 in
theorem bits_Mul32.calls (a0 : Int) (a1 : Int) (r1 : Int) (r2 : Int) (w : World) (h : bits_Mul32.f a0 a1 = some (r1, r2)) :
  Calls Tryz.prog 142 #[.int .u32 a0, .int .u32 a1] w fun e w' => e = .returned (.tuple #[.int .u32 r1, .int .u32 r2]) ∧ Drawn0 w w' := by
 have H : (some (((IntKind.u64.wrap ((IntKind.u64.wrap (a0)) * (IntKind.u64.wrap (a1)))) / 4294967296) % 4294967296, (IntKind.u64.wrap ((IntKind.u64.wrap (a0)) * (IntKind.u64.wrap (a1)))) % 4294967296)) = some (r1, r2) := h
 clear h
 simp only [Option.some.injEq, Prod.mk.injEq] at H
 obtain ⟨rfl, rfl⟩ := H
 go_enter Tryz.func142, Tryz.ntmps142
 go_wp2
 go_ret2
 exact ⟨er, drw⟩

/-! ### bits_Mul64: function 143 -/
def bits_Mul64.f (a0 : Int) (a1 : Int) : Option (Int × Int) := some (IntKind.u64.wrap ((IntKind.u64.wrap ((IntKind.u64.wrap ((a0 / 4294967296) * (a1 / 4294967296))) + ((IntKind.u64.wrap ((IntKind.u64.wrap ((a0 / 4294967296) * (Go.bits .and .u64 a1 4294967295))) + ((IntKind.u64.wrap ((Go.bits .and .u64 a0 4294967295) * (Go.bits .and .u64 a1 4294967295))) / 4294967296))) / 4294967296))) + ((IntKind.u64.wrap ((Go.bits .and .u64 (IntKind.u64.wrap ((IntKind.u64.wrap ((a0 / 4294967296) * (Go.bits .and .u64 a1 4294967295))) + ((IntKind.u64.wrap ((Go.bits .and .u64 a0 4294967295) * (Go.bits .and .u64 a1 4294967295))) / 4294967296))) 4294967295) + (IntKind.u64.wrap ((Go.bits .and .u64 a0 4294967295) * (a1 / 4294967296))))) / 4294967296)), IntKind.u64.wrap (a0 * a1))
set_option maxHeartbeats 8000000 in
set_option maxRecDepth 100000 in
theorem bits_Mul64.calls (a0 : Int) (a1 : Int) (r1 : Int) (r2 : Int) (w : World) (h : bits_Mul64.f a0 a1 = some (r1, r2)) :
  Calls Tryz.prog 143 #[.int .u64 a0, .int .u64 a1] w fun e w' => e = .returned (.tuple #[.int .u64 r1, .int .u64 r2]) ∧ Drawn0 w w' := by
 have H : (some (IntKind.u64.wrap ((IntKind.u64.wrap ((IntKind.u64.wrap ((a0 / 4294967296) * (a1 / 4294967296))) + ((IntKind.u64.wrap ((IntKind.u64.wrap ((a0 / 4294967296) * (Go.bits .and .u64 a1 4294967295))) + ((IntKind.u64.wrap ((Go.bits .and .u64 a0 4294967295) * (Go.bits .and .u64 a1 4294967295))) / 4294967296))) / 4294967296))) + ((IntKind.u64.wrap ((Go.bits .and .u64 (IntKind.u64.wrap ((IntKind.u64.wrap ((a0 / 4294967296) * (Go.bits .and .u64 a1 4294967295))) + ((IntKind.u64.wrap ((Go.bits .and .u64 a0 4294967295) * (Go.bits .and .u64 a1 4294967295))) / 4294967296))) 4294967295) + (IntKind.u64.wrap ((Go.bits .and .u64 a0 4294967295) * (a1 / 4294967296))))) / 4294967296)), IntKind.u64.wrap (a0 * a1))) = some (r1, r2) := h
 clear h
 simp only [Option.some.injEq, Prod.mk.injEq] at H
 obtain ⟨rfl, rfl⟩ := H
 go_enter Tryz.func143, Tryz.ntmps143
 go_wp2
 go_ret2
 exact ⟨er, drw⟩

/-! ### bits_Mul: function 130 -/
def bits_Mul.f (a0 : Int) (a1 : Int) : Option (Int × Int) := (bits_Mul64.f a0 a1).bind fun bt341 => (some (bt341.1, bt341.2))
set_option maxHeartbeats 8000000 in
set_option maxRecDepth 100000 in
theorem bits_Mul.calls (a0 : Int) (a1 : Int) (r1 : Int) (r2 : Int) (w : World) (h : bits_Mul.f a0 a1 = some (r1, r2)) :
  Calls Tryz.prog 130 #[.int .u64 a0, .int .u64 a1] w fun e w' => e = .returned (.tuple #[.int .u64 r1, .int .u64 r2]) ∧ Drawn0 w w' := by
 have H : ((bits_Mul64.f a0 a1).bind fun bt341 => (some (bt341.1, bt341.2))) = some (r1, r2) := h
 clear h; replace H := bS H; obtain ⟨⟨t341, t342⟩, A3, H⟩ := H
 replace H : (some (t341, t342)) = some (r1, r2) := H
 simp only [Option.some.injEq, Prod.mk.injEq] at H
 obtain ⟨rfl, rfl⟩ := H
 go_enter Tryz.func130, Tryz.ntmps130
 go_wp2_with (first | ((with_reducible refine gate_callee (f := 143) rfl ?_); refine goesLa (some 25) rfl Tryz.func143 #[.int .u64 a0, .int .u64 a1] rfl ?_; (with_reducible refine (bits_Mul64.calls a0 a1 t341 t342 _ A3.out).mono ?_); rintro e w' ⟨rfl, ⟨nd, rfl⟩⟩; refine ⟨_, rfl, ?_⟩))
 go_ret2
 exact ⟨er, drw⟩

/-! ### slices_Repeat_int_int: function 117 -/
def slices_Repeat_int_int.f (l0 : List Int) (a1 : Int) : Option (List Int) := if 0 ≤ a1 then (if a1 ≤ 1048576 then (if (l0.length : Int) = 1 then ((bits_Mul.f 1 a1).bind fun m => (if m.1 = 0 then (if m.2 = a1 then (some (List.replicate a1.toNat (rd l0 0))) else (none)) else (none))) else (none)) else (none)) else (none)
set_option maxHeartbeats 8000000 in
set_option maxRecDepth 100000 in
theorem slices_Repeat_int_int.calls (A0 : Option Addr) (c0 : Nat) (l0 : List Int) (a1 : Int) (r : List Int) (w : World) (hr0 : Kd.C (Kd.int .i64) w A0 l0.length l0) (hc0 : l0.length ≤ c0) (h : slices_Repeat_int_int.f l0 a1 = some r) :
  Calls Tryz.prog 117 #[.slice A0 l0.length c0, .int .i64 a1] w fun e w' => ∃ v0_ : Value, e = .returned (v0_) ∧ Kd.R (Kd.int .i64) 3 w' w.heap.size (fun _ => True) v0_ r ∧ Below w.heap.size w w' := by
 unfold slices_Repeat_int_int.f at h
 by_cases h0 : 0 ≤ a1
 ·rw [if_pos h0] at h
  by_cases h1 : a1 ≤ 1048576
  ·rw [if_pos h1] at h
   by_cases hl : (l0.length : Int) = 1
   ·rw [if_pos hl] at h
    obtain ⟨⟨m1, m2⟩, hm, h⟩ := Option.bind_eq_some_iff.mp h
    by_cases e1 : m1 = 0
    ·by_cases e2 : m2 = a1
     ·subst e1; subst e2
      simp only [if_true, Option.some.injEq] at h
      subst h
      obtain ⟨x, rfl⟩ : ∃ x, l0 = [x] := List.length_eq_one_iff.1 (by omega)
      obtain ⟨ad, rfl, hx⟩ := Kd.at_int hr0 0 (by omega) (by simp)
      obtain ⟨N, rfl⟩ := Int.eq_ofNat_of_zero_le h0
      have HM := Aside0.mk hm; clear hm hr0 hl
      have wu : IntKind.u64.wrap (N : Int) = (N : Int) := by simp [IntKind.wrap, IntKind.bits, IntKind.signed]; omega
      have wi : IntKind.i64.wrap (N : Int) = (N : Int) := by rw [IntKind.wrap_i64]; omega
      have n0 : decide ((N : Int) < 0) = false := decide_eq_false (by omega)
      have n1 : decide ((9223372036854775807 : Int) < (N : Int)) = false := decide_eq_false (by omega)
      go_enter Tryz.func117, Tryz.ntmps117
      go_wp2_with (first | ((with_reducible refine gate_callee (f := 130) rfl ?_); refine goesL_ (some 18) rfl rfl Tryz.func130 (by kernel_rfl) rfl #[.int .u64 1, .int .u64 (N : Int)] rfl (by (try simp only [List.map_toArray, List.map_cons, List.map_nil]); first | done | rfl | (simp; done)) ?_; (with_reducible refine (bits_Mul.calls 1 (N : Int) 0 (N : Int) _ HM.out).mono ?_); rintro e w2 ⟨rfl, ⟨nd, rfl⟩⟩; refine ⟨_, rfl, ?_⟩) | ((with_reducible refine gate_dst (N := 30) rfl ?_); refine make_raw rfl 22 3 _ _ rfl N rfl rfl Tryz.underlying22 (.int .i64 0) 8 info3 rfl (by decide) (by omega) ?_; intro w3 hw3; have HG3 := Aside0.mk (show w3.heap[(w.drewN nd).heap.size]? = some (.cells (List.replicate N (Value.int .i64 0)).toArray 3 (0, 0)) by rw [hw3]; exact heap_alloc_new _ _); have HB3 := Aside0.mk (show Below w.heap.size w w3 by rw [hw3]; exact below_alloc (pw_below_drewN (Below.refl _ _) nd) _); have GE := Aside0.mk (show w.heap.size ≤ (w.drewN nd).heap.size from Nat.le_refl _); clear hw3; generalize (w.drewN nd).heap.size = g at HG3 GE ⊢) | ((with_reducible refine gate_builtin (b := .copy) (xs := #[.tmp 31, .tmp 32]) (ts := #[22, 22]) rfl ?_); go_loud (refine wpList_copy_splice rfl (.tmp 31) (.tmp 32) 22 22 rfl 3 Tryz.underlying22 (by kernel_rfl) (some ⟨g, 0, none⟩) (some ad) N N 1 c0 rfl rfl g 0 (List.replicate N (Value.int .i64 0)) 3 HG3.out (List.replicate (min 1 N) (Value.int .i64 x)) List.length_replicate (fun _ => ⟨rfl, ad, rfl, rep_src hx HB3.out⟩) (by simp; omega) (rep_one _ _) w.heap.size w HB3.out GE.out ?_); intro w4 hg4 hb4))
      rw [repl_start] at hg4
      (try simp only [Act.put, List.setIfInBounds_toArray, List.set_cons_zero, List.set_cons_succ])
      go_loopg [8] N (fun kq v8 w' => ∃ n : Nat, v8 = .int .i64 (n : Int) ∧ Aside0 (n ≤ N) ∧ Aside0 (0 < N → 0 < n) ∧ Aside0 (N ≤ n + kq) ∧ Aside0 (w'.heap[g]? = some (.cells (repl x N n).toArray 3 (0, 0))) ∧ Aside0 (Below w.heap.size w w'))
      case atStart => exact ⟨min 1 N, by simp [goInt], ⟨by omega⟩, ⟨by omega⟩, ⟨by omega⟩, ⟨hg4.out⟩, ⟨hb4⟩⟩
      case round =>
       obtain ⟨n, rfl, Hn, Hp, HK, HG, HB⟩ := hrel
       by_cases hn : n < N
       ·obtain ⟨k1, rfl⟩ : ∃ k1, gk = k1 + 1 := ⟨gk - 1, by have := HK.out; omega⟩
        have c0 : decide ((n : Int) < (N : Int)) = true := decide_eq_true (by omega)
        have q0 : (0 : Int) ≤ (n : Int) := by omega
        have q1 : (n : Int) ≤ (N : Int) := by omega
        have q2 : (n : Int) < (N : Int) := by omega
        go_wp2_with fail
        go_region_law (refine step_copy_splice rfl (.tmp 41) (.tmp 44) 22 22 rfl 3 Tryz.underlying22 (by kernel_rfl) (some ⟨g, n, none⟩) (some ⟨g, 0, none⟩) (N - n) (N - n) n N (by simp [Act.eval, Act.put]; omega) (by simp [Act.eval, Act.put]) g n (repl x N n) 3 HG.out (List.replicate (min n (N - n)) (Value.int .i64 x)) List.length_replicate (fun _ => ⟨rfl, _, rfl, repl_src HG.out _ (Nat.min_le_left _ _)⟩) (by rw [repl_len _ _ _ Hn.out, List.length_replicate]; omega) (rep_one _ _) w.heap.size w (below_drew1 HB.out) GE.out ?_; intro w5 hg5 hb5)
        rw [repl_splice x N n _ (by omega)] at hg5
        go_wp2
        go_roundg k1
        case measure => omega
        case rel => exact ⟨n + min n (N - n), by (try simp only [goInt, List.length_replicate, IntKind.wrap_i64]); exact congrArg (Value.int .i64) (by first | omega | (unfold wrap64; omega)), ⟨by omega⟩, ⟨fun _ => by have := Hp.out (by omega); omega⟩, ⟨by have := HK.out; have := Hp.out (by omega); omega⟩, ⟨hg5.out⟩, ⟨hb5⟩⟩
       ·have c0 : decide ((n : Int) < (N : Int)) = false := decide_eq_false (by omega)
        go_wp2
        go_ret
        have e : n = N := by have := Hn.out; omega
        subst e; have hg := HG.out
        rw [repl_full] at hg
        exact ⟨_, rfl, R_ofcells hg GE.out (by unfold maxLen; omega), HB.out⟩
     ·simp [e2] at h
    ·simp [e1] at h
   ·rw [if_neg hl] at h; exact absurd h (by simp)
  ·rw [if_neg h1] at h; exact absurd h (by simp)
 ·rw [if_neg h0] at h; exact absurd h (by simp)

/-! ### impl_padded: function 131 -/
def impl_padded.f (k : Nat) (a0 : ByteArray) : Option (ByteArray) := if a0.size + 1 ≤ 9223372036854775807 then ((strings_Repeat.f k (⟨#[0]⟩ : ByteArray) (15 - (a0.size : Int))).bind fun t343 => (if (a0 ++ (⟨#[128]⟩ : ByteArray)).size + t343.size ≤ 9223372036854775807 then (some ((a0 ++ (⟨#[128]⟩ : ByteArray)) ++ t343)) else (none))) else (none)
theorem impl_padded.mono : ∀ a0 k, LeO (impl_padded.f k a0) (impl_padded.f (k + 1) a0) := by
 intro a0 k
 unfold impl_padded.f
 repeat' (first | (with_reducible first | exact strings_Repeat.mono _ _ _ | exact LeO.refl _ | exact LeO.none _ | refine LeO.ite ?_ ?_ | refine LeO.bind ?_ (fun _ => ?_)) | exact strings_Repeat.mono _ _ _ | exact LeO.none _ | refine LeO.ite ?_ ?_ | refine LeO.bind ?_ (fun _ => ?_))
set_option maxHeartbeats 8000000 in
set_option maxRecDepth 100000 in
theorem impl_padded.calls (k : Nat) (a0 : ByteArray) (r : ByteArray) (w : World) (h : impl_padded.f k a0 = some r) :
  Calls Tryz.prog 131 #[.string a0] w fun e w' => e = .returned (.string r) ∧ Below w.heap.size w w' := by
 have HB := Aside0.mk (Below.refl w.heap.size w)
 have H : (if a0.size + 1 ≤ 9223372036854775807 then ((strings_Repeat.f k (⟨#[0]⟩ : ByteArray) (15 - (a0.size : Int))).bind fun t343 => (if (a0 ++ (⟨#[128]⟩ : ByteArray)).size + t343.size ≤ 9223372036854775807 then (some ((a0 ++ (⟨#[128]⟩ : ByteArray)) ++ t343)) else (none))) else (none)) = some r := h
 clear h; replace H := ifS H; obtain ⟨c2, H⟩ := H; have c2b0 := eq_true c2
 have c2b1 : decide (a0.size + 1 ≤ 9223372036854775807) = true := decide_eq_true c2
 try have c2b2 : (9223372036854775807 < a0.size + 1) = False := eq_false (Nat.not_lt.2 c2)
 replace H := bS H; obtain ⟨t343, A3, H⟩ := H
 replace H : (if (a0 ++ (⟨#[128]⟩ : ByteArray)).size + t343.size ≤ 9223372036854775807 then (some ((a0 ++ (⟨#[128]⟩ : ByteArray)) ++ t343)) else (none)) = some r := H
 replace H := ifS H; obtain ⟨c4, H⟩ := H; have c4b0 := eq_true c4
 have c4b1 : decide ((a0 ++ (⟨#[128]⟩ : ByteArray)).size + t343.size ≤ 9223372036854775807) = true := decide_eq_true c4
 try have c4b2 : (9223372036854775807 < (a0 ++ (⟨#[128]⟩ : ByteArray)).size + t343.size) = False := eq_false (Nat.not_lt.2 c4)
 have c4x2 := c4b2; simp only [ByteArray.size_append] at c4x2; change (9223372036854775807 < a0.size + 1 + t343.size) = False at c4x2
 obtain rfl := Option.some.inj H
 go_enter Tryz.func131, Tryz.ntmps131
 go_wp2_with (first | ((with_reducible refine gate_callee (f := 132) rfl ?_); refine goesLa (some 8) rfl Tryz.func132 #[.string (⟨#[0]⟩ : ByteArray), .int .i64 (15 - (a0.size : Int))] rfl ?_; (with_reducible refine (strings_Repeat.calls k (⟨#[0]⟩ : ByteArray) (15 - (a0.size : Int)) t343 _ A3.out).mono ?_); rintro e w5 ⟨rfl, hb⟩; refine ⟨_, rfl, ?_⟩; replace HB := ak (below_step (belowd HB) hb); (try clear hb)))
 go_ret
 exact ⟨er2, belowd HB⟩

end Go.Proofs.YtihekdlcfohkkaaGreatDoor.QFnExactStepNet
