-- printed by this session's own program (wip/tools/pp.py: the kit's print.py with changes); Lean checks it
import Derived.Test.YtmhdjkbfghfajaaQFnExactInboxOfx0
namespace Go.Proofs.Ytmhdjkbfghfajaa.QFnExactInboxOf
open Go.RowKit Go.Proofs.YtmhdjkbfghfajaaW.PrintWords Go.Proofs.YtmhdjkbfghfajaaW.PrintLast Go.Proofs.YtmhdjkbfghfajaaW.PrintMore
attribute [local go_sem] max2_int min2_int max_two min_two max_three min_three max_four min_four strLss strGtr strLeq strGeq   -- for this text's walks alone
set_option linter.unusedVariables false
set_option linter.unusedSimpArgs false

/-! ### slices_swapRangeCmpFunc_47_at_39: function 47 -/
def slices_swapRangeCmpFunc_47_at_39.l0 : Nat → List ByteArray → Int → Int → Int → Int → Option (List ByteArray)
  | 0, _, _, _, _, _ => none
  | k + 1, x0, x1, x2, x3, x10 => if x10 < x3 then (if 0 ≤ (wrap64 (x2 + x10)) then (if (wrap64 (x2 + x10)) < (x0.length : Int) then (if 0 ≤ (wrap64 (x1 + x10)) then (if (wrap64 (x1 + x10)) < (x0.length : Int) then (slices_swapRangeCmpFunc_47_at_39.l0 k ((x0.set ((wrap64 (x1 + x10)) : Int).toNat (rdOf ByteArray.empty x0 (wrap64 (x2 + x10)))).set ((wrap64 (x2 + x10)) : Int).toNat (rdOf ByteArray.empty x0 (wrap64 (x1 + x10)))) x1 x2 x3 (wrap64 (x10 + 1))) else (none)) else (none)) else (none)) else (none)) else (some x0)
def slices_swapRangeCmpFunc_47_at_39.f (k : Nat) (l0 : List ByteArray) (a1 : Int) (a2 : Int) (a3 : Int)  : Option (List ByteArray) := slices_swapRangeCmpFunc_47_at_39.l0 k l0 a1 a2 a3 0
theorem slices_swapRangeCmpFunc_47_at_39.mono_l : ∀ k, (∀ y0 y1 y2 y3 y4, LeO (slices_swapRangeCmpFunc_47_at_39.l0 k y0 y1 y2 y3 y4) (slices_swapRangeCmpFunc_47_at_39.l0 (k + 1) y0 y1 y2 y3 y4))
 | 0 => fun _ _ _ _ _ r h => by simp [slices_swapRangeCmpFunc_47_at_39.l0] at h
 | k + 1 => by
  have ih0 := slices_swapRangeCmpFunc_47_at_39.mono_l k
  ·intro y0 y1 y2 y3 y4
   unfold slices_swapRangeCmpFunc_47_at_39.l0
   repeat' (first | (with_reducible first | exact ih0 _ _ _ _ _ | exact LeO.refl _ | exact LeO.none _ | refine LeO.ite ?_ ?_ | refine LeO.bind ?_ (fun _ => ?_)) | exact ih0 _ _ _ _ _ | exact LeO.none _ | refine LeO.ite ?_ ?_ | refine LeO.bind ?_ (fun _ => ?_))
theorem slices_swapRangeCmpFunc_47_at_39.mono : ∀ a0 a1 a2 a3 k, LeO (slices_swapRangeCmpFunc_47_at_39.f k a0 a1 a2 a3) (slices_swapRangeCmpFunc_47_at_39.f (k + 1) a0 a1 a2 a3) := by
 intro a0 a1 a2 a3 k
 have ih0 := slices_swapRangeCmpFunc_47_at_39.mono_l k
 unfold slices_swapRangeCmpFunc_47_at_39.f
 repeat' (first | (with_reducible first | exact ih0 _ _ _ _ _ | exact LeO.refl _ | exact LeO.none _ | refine LeO.ite ?_ ?_ | refine LeO.bind ?_ (fun _ => ?_)) | exact ih0 _ _ _ _ _ | exact LeO.none _ | refine LeO.ite ?_ ?_ | refine LeO.bind ?_ (fun _ => ?_))
def slices_swapRangeCmpFunc_47_at_39.T3 : Bool × List (List Nat × List Nat) := (true, [([], []), ([], []), ([], []), ([1, 2], [1, 2]), ([], []), ([], []), ([], []), ([5, 6], [5, 6]), ([], []), ([], []), ([], []), ([9, 10], [9, 10]), ([8, 11], [8, 11]), ([12], [12]), ([], []), ([], []), ([], []), ([15, 16], [15, 16]), ([14, 17], [14, 17]), ([18], [18]), ([0, 3, 0, 1, 2, 3, 8, 9, 10, 11, 12, 13, 19], [0, 3]), ([20, 13, 0, 1, 2, 3, 8, 9, 10, 11, 12, 13, 19], [13, 20]), ([4, 7, 0, 1, 2, 3, 4, 5, 6, 7, 8, 9, 10, 11, 12, 13, 14, 15, 16, 17, 18, 19, 20, 21], [4, 7]), ([22, 19, 21, 0, 1, 2, 3, 4, 5, 6, 7, 8, 9, 10, 11, 12, 13, 14, 15, 16, 17, 18, 19, 20, 21], [19, 22])])
def slices_swapRangeCmpFunc_47_at_39.B3 : List Nat := [0, 0, 0, 6, 0, 0, 0, 96, 0, 0, 0, 1536, 3840, 7936, 0, 0, 0, 98304, 245760, 507904, 1048335, 2096911, 4194303, 8388607]
theorem slices_swapRangeCmpFunc_47_at_39.tab3 : rtab .any (opsOf Try.f47 3) = slices_swapRangeCmpFunc_47_at_39.T3 := by kernel_rfl
theorem slices_swapRangeCmpFunc_47_at_39.bits3 : waitsOk slices_swapRangeCmpFunc_47_at_39.T3.2 slices_swapRangeCmpFunc_47_at_39.B3 = true := by kernel_rfl
set_option maxHeartbeats 8000000 in
set_option maxRecDepth 100000 in
theorem slices_swapRangeCmpFunc_47_at_39.calls (k : Nat) (P0_ : Nat → Prop) (u9000_ : Value) (l0 : List ByteArray) (a1 : Int) (a2 : Int) (a3 : Int)  (r : List ByteArray) (w0 w : World) (hB : Below w0.heap.size w0 w) (ho0 : Kd.R Kd.string 9 w w0.heap.size P0_ u9000_ l0) (h : slices_swapRangeCmpFunc_47_at_39.f k l0 a1 a2 a3 = some r) :
  Calls Try.prog 47 #[u9000_, .int .i64 a1, .int .i64 a2, .int .i64 a3, .func (.func 39) #[] #[]] w fun e w' => e = .returned (.tuple #[]) ∧ Kd.R Kd.string 9 w' w0.heap.size (fun k_ => (P0_ k_ ∨ w.heap.size ≤ k_)) u9000_ r ∧ Below w0.heap.size w0 w' ∧ Kept w w' (fun k_ => P0_ k_) := by
 have HO0 := Aside0.mk (show Kd.R Kd.string 9 w w0.heap.size (fun k_ => (P0_ k_ ∨ w.heap.size ≤ k_)) u9000_ l0 from Kd.R_mono ho0 (fun k_ hk => (.inl hk)))
 have HK := Aside0.mk (Kept.refl w (fun k_ => P0_ k_))
 have HW0 := Aside0.mk hB.size
 have HB := Aside0.mk hB; clear hB
 have H : (slices_swapRangeCmpFunc_47_at_39.l0 k l0 a1 a2 a3 0) = some r := h
 clear h
 have H' := Aside0.mk H
 clear H
 go_enter Try.func47, Try.ntmps47
 go_wp2
 go_loopg [10] k (fun kq v10 w' => ∃ (x0_1 : List ByteArray) (x10_1 : Int), v10 = .int .i64 x10_1 ∧ Aside0 (slices_swapRangeCmpFunc_47_at_39.l0 kq x0_1 a1 a2 a3 x10_1 = some r) ∧ Aside0 (kq ≤ k) ∧ Aside0 (Kd.R Kd.string 9 w' w0.heap.size (fun k_ => (P0_ k_ ∨ w.heap.size ≤ k_)) u9000_ x0_1) ∧ Aside0 (Kept w w' (fun k_ => P0_ k_)) ∧ Aside0 (Below w0.heap.size w0 w'))
 case atStart => exact ⟨(l0), (0), er, H', ⟨Nat.le_refl _⟩, ⟨rdl HO0⟩, ⟨by repeat (first | (with_reducible first | exact HK.out | apply Kept.alloc | apply Kept.drewN | apply Kept.drew) | exact HK.out)⟩, ⟨belowd HB⟩⟩
 case round =>
  clear H'
  obtain ⟨x0_1, x10_1, rfl, HA, HK1, HO_0, HK, HB⟩ := hrel
  cases gk with
  | zero => exact absurd HA.out (by simp [slices_swapRangeCmpFunc_47_at_39.l0])
  | succ k1 =>
   have H := HA.out; clear HA
   simp only [slices_swapRangeCmpFunc_47_at_39.l0] at H
   by_cases c6 : x10_1 < a3
   ·rw [if_pos c6] at H
    have c6b0 : decide (x10_1 < a3) = true := decide_eq_true c6
    clear c6
    obtain ⟨ji7, hji7⟩ : ∃ j_ : Int, (wrap64 (a2 + x10_1)) = j_ := ⟨_, rfl⟩
    replace H : (if 0 ≤ (ji7) then (if (ji7) < (x0_1.length : Int) then (if 0 ≤ (wrap64 (a1 + x10_1)) then (if (wrap64 (a1 + x10_1)) < (x0_1.length : Int) then (slices_swapRangeCmpFunc_47_at_39.l0 k1 ((x0_1.set ((wrap64 (a1 + x10_1)) : Int).toNat (rdOf ByteArray.empty x0_1 (ji7))).set ((ji7) : Int).toNat (rdOf ByteArray.empty x0_1 (wrap64 (a1 + x10_1)))) a1 a2 a3 (wrap64 (x10_1 + 1))) else (none)) else (none)) else (none)) else (none)) = some r := by first | (rw [hji7] at H; exact H) | (simp only [hji7] at H ⊢; exact H)
    have hji7w : (IntKind.i64.wrap (a2 + x10_1)) = ji7 := (i64_w _).trans hji7
    replace H := ifS H; obtain ⟨c8, H⟩ := H; have c8b0 := decide_eq_true c8; clear c8; replace H := ifS H; obtain ⟨c9, H⟩ := H; have c9b0 := decide_eq_true c9; clear c9
    obtain ⟨ji10, hji10⟩ : ∃ j_ : Int, (wrap64 (a1 + x10_1)) = j_ := ⟨_, rfl⟩
    replace H : (if 0 ≤ (ji10) then (if (ji10) < (x0_1.length : Int) then (slices_swapRangeCmpFunc_47_at_39.l0 k1 ((x0_1.set ((ji10) : Int).toNat (rdOf ByteArray.empty x0_1 (ji7))).set ((ji7) : Int).toNat (rdOf ByteArray.empty x0_1 (ji10))) a1 a2 a3 (wrap64 (x10_1 + 1))) else (none)) else (none)) = some r := by first | (rw [hji10] at H; exact H) | (simp only [hji10] at H ⊢; exact H)
    have hji10w : (IntKind.i64.wrap (a1 + x10_1)) = ji10 := (i64_w _).trans hji10
    replace H := ifS H; obtain ⟨c11, H⟩ := H; have c11b0 := decide_eq_true c11; clear c11; replace H := ifS H; obtain ⟨c12, H⟩ := H; have c12b0 := decide_eq_true c12; clear c12
    obtain ⟨y235, hy_⟩ : ∃ y_ : List ByteArray, y_ = (x0_1.set ((ji10) : Int).toNat (rdOf ByteArray.empty x0_1 (ji7))) := ⟨_, rfl⟩
    replace H : (slices_swapRangeCmpFunc_47_at_39.l0 k1 (y235.set ((ji7) : Int).toNat (rdOf ByteArray.empty x0_1 (ji10))) a1 a2 a3 (wrap64 (x10_1 + 1))) = some r := yH
    have Ny235 := ak hy_; clear hy_
    obtain ⟨y236, hy_⟩ : ∃ y_ : List ByteArray, y_ = (y235.set ((ji7) : Int).toNat (rdOf ByteArray.empty x0_1 (ji10))) := ⟨_, rfl⟩
    replace H : (slices_swapRangeCmpFunc_47_at_39.l0 k1 y236 a1 a2 a3 (wrap64 (x10_1 + 1))) = some r := yH
    have Ny236 := ak hy_; clear hy_
    have H' := Aside0.mk H
    clear H
    try go_wp2
    replace HO_0 := ak (Kd.R_drew HO_0.out)
    replace HK := ak (Kept.drew HK.out)
    replace HB := ak (below_drew1 HB.out)
    obtain ⟨Ao16, co16, eo16⟩ := Kd.R_slice HO_0.out
    (first | subst eo16 | (injection eo16 with f1_ f2_ f3_; have f4_ := f1_.symm; have f5_ := f3_.symm; clear f1_ f2_ f3_; subst f4_; subst f5_))
    have p233 : 0 ≤ ((ji7) : Int) := da
    have q233 : (ji7) < (x0_1.length : Int) := da
    obtain ⟨ad233, e233, hx233_0⟩ := Kd.at_string (Kd.R_reads' HO_0.out).2.2 (ji7) p233 q233
    cases e233
    replace p233 := eq_true p233; replace q233 := eq_true q233
    have p234 : 0 ≤ ((ji10) : Int) := da
    have q234 : (ji10) < (x0_1.length : Int) := da
    obtain ⟨ad234, e234, hx234_0⟩ := Kd.at_string (Kd.R_reads' HO_0.out).2.2 (ji10) p234 q234
    obtain rfl : ad233 = ad234 := (by injection e234)
    replace p234 := eq_true p234; replace q234 := eq_true q234
    have p13 : 0 ≤ ((ji10) : Int) := da
    have q13 : ((ji10) : Int) < ((x0_1.length : Int) : Int) := da
    obtain ⟨go13, co13, eo13, gb13, gl13, cl13, HG13⟩ := Kd.R_form HO_0.out (by omega)
    (first | cases eo13 | (injection eo13 with ea_ en_ ec_; (first | subst ea_ | (injection ea_ with ea_; subst ea_)); subst ec_; clear en_))
    have GB13 := Aside0.mk gb13; have GG13 := Aside0.mk HG13; clear gb13 gl13 HG13
    have HMgo13 := Aside0.mk (show (P0_ go13 ∨ w.heap.size ≤ go13) from (HO_0.out.1 _ rfl))
    (first | simp only [add_plain] at hx233_0 | skip)
    (first | simp only [add_plain] at hx234_0 | skip)
    obtain ⟨hx13_0, hf13_0⟩ := Kd.R_celln (⟨#[]⟩ : ByteArray) HO_0.out ((ji10) : Int) p13 q13
    replace p13 := eq_true p13; replace q13 := eq_true q13
    have HP17 := Kd.R_putn HO_0.out ((ji10) : Int) (rdOf ByteArray.empty x0_1 (ji7))
    rw [← Ny235.out] at HP17
    have HQ17 := Aside0.mk HP17; clear HP17
    have p14 : 0 ≤ ((ji7) : Int) := da
    have q14 : ((ji7) : Int) < ((x0_1.length : Int) : Int) := da
    obtain ⟨hx14_0, hf14_0⟩ := Kd.R_celln (⟨#[]⟩ : ByteArray) HQ17.out ((ji7) : Int) p14 q14
    replace p14 := eq_true p14; replace q14 := eq_true q14
    have HP18 := Kd.R_putn HQ17.out ((ji7) : Int) (rdOf ByteArray.empty x0_1 (ji10))
    rw [← Ny236.out] at HP18
    have HQ18 := Aside0.mk HP18; clear HP18
    refine start_ (n := 24) (S := fun w' => w'.cell? ⟨go13, ((ji7)).toNat, none⟩ = some (.string (rdOf ByteArray.empty x0_1 (ji7))) ∧ w'.cell? ⟨go13, ((ji10)).toNat, none⟩ = some (.string (rdOf ByteArray.empty x0_1 (ji10)))) (ds := [21, 23]) (bl 24 0) (by kernel_rfl) rfl rfl ⟨hx233_0, hx234_0⟩ (fun hHeld => ?_); refine with_tabW slices_swapRangeCmpFunc_47_at_39.tab3 slices_swapRangeCmpFunc_47_at_39.bits3 (fun HT_ HW_ => ?_)
    generalize wr.drew = w15 at HO_0 HK HB GG13 HQ17 HQ18 hf13_0 hf14_0 hx13_0 hx14_0 hx233_0 hx234_0 hHeld ⊢
    refine pureA 0 (some 16) 24 1 HT_ ?_
    refine pureA 1 (some 17) 24 3 HT_ ?_
    refine pureA 2 (some 18) 24 7 HT_ ?_
    refine pureA 3 (some 19) 24 15 HT_ ?_
    refine pureA 4 (some 20) 24 31 HT_ ?_
    refine pureA 5 (some 21) 24 63 HT_ ?_
    refine pureA 6 (some 22) 24 127 HT_ ?_
    refine pureA 7 (some 23) 24 255 HT_ ?_
    refine pureA 8 (some 24) 24 511 HT_ ?_
    refine pureA 9 (some 25) 24 1023 HT_ ?_
    refine pureA 10 (some 26) 24 2047 HT_ ?_
    refine pureA 11 (some 27) 24 4095 HT_ ?_
    refine pureA 12 (some 28) 24 8191 HT_ ?_
    refine pureA 14 (some 30) 24 24575 HT_ ?_
    refine pureA 15 (some 31) 24 57343 HT_ ?_
    refine pureA 16 (some 32) 24 122879 HT_ ?_
    refine pureA 17 (some 33) 24 253951 HT_ ?_
    refine pureA 18 (some 34) 24 516095 HT_ ?_
    refine takeA 13 (some 29) 24 524287 HT_ HW_ hHeld ?_ (hy := by rintro w' ⟨s0, s1⟩; go_simp; with_reducible rfl)
    refine takeA 19 (some 35) 24 1048575 HT_ HW_ hHeld ?_ (hy := by rintro w' ⟨s0, s1⟩; go_simp; with_reducible rfl)
    refine pureA 20 (some 36) 24 2097151 HT_ ?_
    refine last_ (i := 21) (N := none) (bl 24 4194303) rfl rfl (one_of HT_.out (by kernel_rfl)) (by decide) (fun K hK => ?_)
    refine skip_ (w1 := ?_) (by rfl) rfl ?_ ?_
    rotate_left
    ·go_simp
     rfl
    refine hK.out _ _ ?_
    clear hK K
    refine pureA 22 (some 37) 24 8388607 HT_ ?_
    refine last_ (i := 23) (N := none) (bl 24 16777215) rfl rfl (one_of HT_.out (by kernel_rfl)) (by decide) (fun K hK => ?_)
    refine skip_ (w1 := ?_) (by rfl) rfl ?_ ?_
    rotate_left
    ·go_simp
     rfl
    refine hK.out _ _ ?_
    clear hK K
    refine done_ (done_of HT_.out (by kernel_rfl)) ?_
    try go_wp2
    (first | go_roundg k1 | ((try rw [← add_plain go13 ((ji7) : Int).toNat]); (try rw [← add_plain go13 ((ji10) : Int).toNat]); go_roundg k1))
    case measure => have := HK1.out; omega
    case rel => exact ⟨(y236), (wrap64 (x10_1 + 1)), er, H', ⟨by have := HK1.out; omega⟩, ⟨rdl HQ18⟩, ⟨by repeat (first | (with_reducible first | exact HK.out | apply Kept.alloc | apply Kept.drewN | apply Kept.drew | refine Kept.setCell ?_ HMgo13.out _ | refine Kept.setCell ?_ HMgo13.out _) | exact HK.out)⟩, ⟨by repeat (first | (with_reducible first | exact HB.out | apply below_alloc | apply pw_below_drewN | apply below_drew1 | refine below_set ?_ GB13.out | refine below_set ?_ GB13.out) | exact HB.out)⟩⟩
   ·rw [if_neg c6] at H
    have c6b0 : decide (x10_1 < a3) = false := decide_eq_false c6
    clear c6
    obtain rfl := Option.some.inj H
    go_wp2
    first | go_end0 | ((try simp only [Exit.inBlock, Exit.then]); refine bodyPost_ret (results_none rfl _ _ _) rfl ?_)
    exact ⟨er2, by (with_reducible repeat (first | apply Kd.R_alloc | apply Kd.R_drewN | apply Kd.R_drew)); exact HO_0.out, belowd HB, by repeat (first | (with_reducible first | exact HK.out | apply Kept.alloc | apply Kept.drewN | apply Kept.drew) | exact HK.out)⟩

/-! ### slices_rotateCmpFunc_46_at_39: function 46 -/
def slices_rotateCmpFunc_46_at_39.l0 : Nat → List ByteArray → Int → Int → Int → Option (List ByteArray)
  | 0, _, _, _, _ => none
  | k + 1, x0, x2, x10, x11 => if x10 = x11 then ((slices_swapRangeCmpFunc_47_at_39.f k x0 (wrap64 (x2 - x10)) x2 x10).bind fun t237 => (some t237)) else (if x10 > x11 then ((slices_swapRangeCmpFunc_47_at_39.f k x0 (wrap64 (x2 - x10)) x2 x11).bind fun t238 => (slices_rotateCmpFunc_46_at_39.l0 k t238 x2 (wrap64 (x10 - x11)) x11)) else ((slices_swapRangeCmpFunc_47_at_39.f k x0 (wrap64 (x2 - x10)) (wrap64 ((wrap64 (x2 + x11)) - x10)) x10).bind fun t239 => (slices_rotateCmpFunc_46_at_39.l0 k t239 x2 x10 (wrap64 (x11 - x10)))))
def slices_rotateCmpFunc_46_at_39.f (k : Nat) (l0 : List ByteArray) (a1 : Int) (a2 : Int) (a3 : Int)  : Option (List ByteArray) := slices_rotateCmpFunc_46_at_39.l0 k l0 a2 (wrap64 (a2 - a1)) (wrap64 (a3 - a2))
theorem slices_rotateCmpFunc_46_at_39.mono_l : ∀ k, (∀ y0 y1 y2 y3, LeO (slices_rotateCmpFunc_46_at_39.l0 k y0 y1 y2 y3) (slices_rotateCmpFunc_46_at_39.l0 (k + 1) y0 y1 y2 y3))
 | 0 => fun _ _ _ _ r h => by simp [slices_rotateCmpFunc_46_at_39.l0] at h
 | k + 1 => by
  have ih0 := slices_rotateCmpFunc_46_at_39.mono_l k
  ·intro y0 y1 y2 y3
   unfold slices_rotateCmpFunc_46_at_39.l0
   repeat' (first | (with_reducible first | exact ih0 _ _ _ _ | exact slices_swapRangeCmpFunc_47_at_39.mono _ _ _ _ _ | exact LeO.refl _ | exact LeO.none _ | refine LeO.ite ?_ ?_ | refine LeO.bind ?_ (fun _ => ?_)) | exact ih0 _ _ _ _ | exact slices_swapRangeCmpFunc_47_at_39.mono _ _ _ _ _ | exact LeO.none _ | refine LeO.ite ?_ ?_ | refine LeO.bind ?_ (fun _ => ?_))
theorem slices_rotateCmpFunc_46_at_39.mono : ∀ a0 a1 a2 a3 k, LeO (slices_rotateCmpFunc_46_at_39.f k a0 a1 a2 a3) (slices_rotateCmpFunc_46_at_39.f (k + 1) a0 a1 a2 a3) := by
 intro a0 a1 a2 a3 k
 have ih0 := slices_rotateCmpFunc_46_at_39.mono_l k
 unfold slices_rotateCmpFunc_46_at_39.f
 repeat' (first | (with_reducible first | exact ih0 _ _ _ _ | exact slices_swapRangeCmpFunc_47_at_39.mono _ _ _ _ _ | exact LeO.refl _ | exact LeO.none _ | refine LeO.ite ?_ ?_ | refine LeO.bind ?_ (fun _ => ?_)) | exact ih0 _ _ _ _ | exact slices_swapRangeCmpFunc_47_at_39.mono _ _ _ _ _ | exact LeO.none _ | refine LeO.ite ?_ ?_ | refine LeO.bind ?_ (fun _ => ?_))
set_option maxHeartbeats 8000000 in
set_option maxRecDepth 100000 in
theorem slices_rotateCmpFunc_46_at_39.calls (k : Nat) (P0_ : Nat → Prop) (u9000_ : Value) (l0 : List ByteArray) (a1 : Int) (a2 : Int) (a3 : Int)  (r : List ByteArray) (w0 w : World) (hB : Below w0.heap.size w0 w) (ho0 : Kd.R Kd.string 9 w w0.heap.size P0_ u9000_ l0) (h : slices_rotateCmpFunc_46_at_39.f k l0 a1 a2 a3 = some r) :
  Calls Try.prog 46 #[u9000_, .int .i64 a1, .int .i64 a2, .int .i64 a3, .func (.func 39) #[] #[]] w fun e w' => e = .returned (.tuple #[]) ∧ Kd.R Kd.string 9 w' w0.heap.size (fun k_ => (P0_ k_ ∨ w.heap.size ≤ k_)) u9000_ r ∧ Below w0.heap.size w0 w' ∧ Kept w w' (fun k_ => P0_ k_) := by
 have HO0 := Aside0.mk (show Kd.R Kd.string 9 w w0.heap.size (fun k_ => (P0_ k_ ∨ w.heap.size ≤ k_)) u9000_ l0 from Kd.R_mono ho0 (fun k_ hk => (.inl hk)))
 have HK := Aside0.mk (Kept.refl w (fun k_ => P0_ k_))
 have HW0 := Aside0.mk hB.size
 have HB := Aside0.mk hB; clear hB
 have H : (slices_rotateCmpFunc_46_at_39.l0 k l0 a2 (wrap64 (a2 - a1)) (wrap64 (a3 - a2))) = some r := h
 clear h
 have H' := Aside0.mk H
 clear H
 go_enter Try.func46, Try.ntmps46
 go_wp2
 go_loopg [10, 11] k (fun kq v10 v11 w' => ∃ (x0_1 : List ByteArray) (x10_1 : Int) (x11_1 : Int), v10 = .int .i64 x10_1 ∧ v11 = .int .i64 x11_1 ∧ Aside0 (slices_rotateCmpFunc_46_at_39.l0 kq x0_1 a2 x10_1 x11_1 = some r) ∧ Aside0 (kq ≤ k) ∧ Aside0 (Kd.R Kd.string 9 w' w0.heap.size (fun k_ => (P0_ k_ ∨ w.heap.size ≤ k_)) u9000_ x0_1) ∧ Aside0 (Kept w w' (fun k_ => P0_ k_)) ∧ Aside0 (Below w0.heap.size w0 w'))
 case atStart => exact ⟨(l0), (wrap64 (a2 - a1)), (wrap64 (a3 - a2)), er, er, H', ⟨Nat.le_refl _⟩, ⟨rdl HO0⟩, ⟨by repeat (first | (with_reducible first | exact HK.out | apply Kept.alloc | apply Kept.drewN | apply Kept.drew) | exact HK.out)⟩, ⟨belowd HB⟩⟩
 case round =>
  clear H'
  obtain ⟨x0_1, x10_1, x11_1, rfl, rfl, HA, HK1, HO_0, HK, HB⟩ := hrel
  cases gk with
  | zero => exact absurd HA.out (by simp [slices_rotateCmpFunc_46_at_39.l0])
  | succ k1 =>
   have H := HA.out; clear HA
   simp only [slices_rotateCmpFunc_46_at_39.l0] at H
   by_cases c6 : x10_1 = x11_1
   ·rw [if_pos c6] at H
    have c6b0 : (x10_1 == x11_1) = true := beq_iff_eq.mpr c6
    have c6b1 : (x10_1 != x11_1) = false := bne_eq_false_iff_eq.mpr c6
    clear c6; replace H := bS H; obtain ⟨t237, A7, H⟩ := H
    replace H : (some t237) = some r := H
    obtain rfl := Option.some.inj H
    obtain ⟨Ao8, co8, eo8⟩ := Kd.R_slice HO_0.out
    subst eo8
    go_wp2_with (first | ((with_reducible refine gate_callee (f := 47) rfl ?_); refine goesLa (some 57) rfl Try.func47 #[.slice Ao8 x0_1.length co8, .int .i64 (wrap64 (a2 - x10_1)), .int .i64 a2, .int .i64 x10_1, .func (.func 39) #[] #[]] rfl ?_; (with_reducible refine (slices_swapRangeCmpFunc_47_at_39.calls k1 (fun k_ => some k_ = (.slice Ao8 x0_1.length co8 : Value).ownBlock) (.slice Ao8 x0_1.length co8) x0_1 (wrap64 (a2 - x10_1)) a2 x10_1  t237 w0 _ ?side1 ?side2 A7.out).mono ?_); (case side1 => repeat (first | (with_reducible first | exact HB.out | apply below_alloc | apply pw_below_drewN | apply below_drew1) | exact HB.out)); (case side2 => exact Kd.R_tight rfl HO_0.out); rintro e w9 ⟨rfl, hy0, hb, hkp⟩; refine ⟨_, rfl, ?_⟩; replace HK := ak (Kept.then_ (S := (fun k_ => P0_ k_)) (by repeat (first | (with_reducible first | exact HK.out | apply Kept.alloc | apply Kept.drewN | apply Kept.drew) | exact HK.out)) hkp (fun k_ hs_ => (fun e_ => (HO_0.out.1 k_ e_.symm)) hs_)); replace HO_0 := ak (Kd.R_reok rfl hy0 (fun k_ e_ => HO_0.out.1 k_ e_)); replace HB := ak (hb); (try clear hb); (try clear hkp); (try clear hy0)))
    first | go_end0 | ((try simp only [Exit.inBlock, Exit.then]); refine bodyPost_ret (results_none rfl _ _ _) rfl ?_)
    exact ⟨er2, by (with_reducible repeat (first | apply Kd.R_alloc | apply Kd.R_drewN | apply Kd.R_drew)); exact HO_0.out, belowd HB, by repeat (first | (with_reducible first | exact HK.out | apply Kept.alloc | apply Kept.drewN | apply Kept.drew) | exact HK.out)⟩
   ·rw [if_neg c6] at H
    have c6b0 : (x10_1 == x11_1) = false := beq_eq_false_iff_ne.mpr c6
    have c6b1 : (x10_1 != x11_1) = true := bne_iff_ne.mpr c6
    by_cases c10 : x10_1 > x11_1
    ·rw [if_pos c10] at H
     have c10b0 : decide (x11_1 < x10_1) = true := decide_eq_true c10
     clear c10; replace H := bS H; obtain ⟨t238, A11, H⟩ := H
     replace H : (slices_rotateCmpFunc_46_at_39.l0 k1 t238 a2 (wrap64 (x10_1 - x11_1)) x11_1) = some r := H
     have H' := Aside0.mk H
     clear H
     obtain ⟨Ao12, co12, eo12⟩ := Kd.R_slice HO_0.out
     subst eo12
     go_wp2_with (first | ((with_reducible refine gate_callee (f := 47) rfl ?_); refine goesLa (some 31) rfl Try.func47 #[.slice Ao12 x0_1.length co12, .int .i64 (wrap64 (a2 - x10_1)), .int .i64 a2, .int .i64 x11_1, .func (.func 39) #[] #[]] rfl ?_; (with_reducible refine (slices_swapRangeCmpFunc_47_at_39.calls k1 (fun k_ => some k_ = (.slice Ao12 x0_1.length co12 : Value).ownBlock) (.slice Ao12 x0_1.length co12) x0_1 (wrap64 (a2 - x10_1)) a2 x11_1  t238 w0 _ ?side1 ?side2 A11.out).mono ?_); (case side1 => repeat (first | (with_reducible first | exact HB.out | apply below_alloc | apply pw_below_drewN | apply below_drew1) | exact HB.out)); (case side2 => exact Kd.R_tight rfl HO_0.out); rintro e w13 ⟨rfl, hy0, hb, hkp⟩; refine ⟨_, rfl, ?_⟩; replace HK := ak (Kept.then_ (S := (fun k_ => P0_ k_)) (by repeat (first | (with_reducible first | exact HK.out | apply Kept.alloc | apply Kept.drewN | apply Kept.drew) | exact HK.out)) hkp (fun k_ hs_ => (fun e_ => (HO_0.out.1 k_ e_.symm)) hs_)); replace HO_0 := ak (Kd.R_reok rfl hy0 (fun k_ e_ => HO_0.out.1 k_ e_)); replace HB := ak (hb); (try clear hb); (try clear hkp); (try clear hy0)))
     go_roundg k1
     case measure => have := HK1.out; omega
     case rel => exact ⟨(t238), (wrap64 (x10_1 - x11_1)), (x11_1), er, er, H', ⟨by have := HK1.out; omega⟩, ⟨rdl HO_0⟩, ⟨by repeat (first | (with_reducible first | exact HK.out | apply Kept.alloc | apply Kept.drewN | apply Kept.drew) | exact HK.out)⟩, ⟨belowd HB⟩⟩
    ·rw [if_neg c10] at H
     have c10b0 : decide (x11_1 < x10_1) = false := decide_eq_false c10
     clear c10; replace H := bS H; obtain ⟨t239, A14, H⟩ := H
     replace H : (slices_rotateCmpFunc_46_at_39.l0 k1 t239 a2 x10_1 (wrap64 (x11_1 - x10_1))) = some r := H
     have H' := Aside0.mk H
     clear H
     obtain ⟨Ao15, co15, eo15⟩ := Kd.R_slice HO_0.out
     subst eo15
     go_wp2_with (first | ((with_reducible refine gate_callee (f := 47) rfl ?_); refine goesLa (some 46) rfl Try.func47 #[.slice Ao15 x0_1.length co15, .int .i64 (wrap64 (a2 - x10_1)), .int .i64 (wrap64 ((wrap64 (a2 + x11_1)) - x10_1)), .int .i64 x10_1, .func (.func 39) #[] #[]] rfl ?_; (with_reducible refine (slices_swapRangeCmpFunc_47_at_39.calls k1 (fun k_ => some k_ = (.slice Ao15 x0_1.length co15 : Value).ownBlock) (.slice Ao15 x0_1.length co15) x0_1 (wrap64 (a2 - x10_1)) (wrap64 ((wrap64 (a2 + x11_1)) - x10_1)) x10_1  t239 w0 _ ?side1 ?side2 A14.out).mono ?_); (case side1 => repeat (first | (with_reducible first | exact HB.out | apply below_alloc | apply pw_below_drewN | apply below_drew1) | exact HB.out)); (case side2 => exact Kd.R_tight rfl HO_0.out); rintro e w16 ⟨rfl, hy0, hb, hkp⟩; refine ⟨_, rfl, ?_⟩; replace HK := ak (Kept.then_ (S := (fun k_ => P0_ k_)) (by repeat (first | (with_reducible first | exact HK.out | apply Kept.alloc | apply Kept.drewN | apply Kept.drew) | exact HK.out)) hkp (fun k_ hs_ => (fun e_ => (HO_0.out.1 k_ e_.symm)) hs_)); replace HO_0 := ak (Kd.R_reok rfl hy0 (fun k_ e_ => HO_0.out.1 k_ e_)); replace HB := ak (hb); (try clear hb); (try clear hkp); (try clear hy0)))
     go_roundg k1
     case measure => have := HK1.out; omega
     case rel => exact ⟨(t239), (x10_1), (wrap64 (x11_1 - x10_1)), er, er, H', ⟨by have := HK1.out; omega⟩, ⟨rdl HO_0⟩, ⟨by repeat (first | (with_reducible first | exact HK.out | apply Kept.alloc | apply Kept.drewN | apply Kept.drew) | exact HK.out)⟩, ⟨belowd HB⟩⟩

end Go.Proofs.Ytmhdjkbfghfajaa.QFnExactInboxOf
