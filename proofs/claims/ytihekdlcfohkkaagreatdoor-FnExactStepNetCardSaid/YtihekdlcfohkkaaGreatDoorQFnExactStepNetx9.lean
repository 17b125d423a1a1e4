-- printed by this session's own program (wip/tools/pp.py: the kit's print.py with changes); Lean checks it
import Derived.Test.YtihekdlcfohkkaaGreatDoorQFnExactStepNetx0
import Derived.Test.YtihekdlcfohkkaaGreatDoorQFnExactStepNetx1
import Derived.Test.YtihekdlcfohkkaaGreatDoorQFnExactStepNetx4
import Derived.Test.YtihekdlcfohkkaaGreatDoorQFnExactStepNetx7
import Derived.Test.YtihekdlcfohkkaaGreatDoorQFnExactStepNetx8
namespace Go.Proofs.YtihekdlcfohkkaaGreatDoor.QFnExactStepNet
open Go.RowKit Go.Proofs.YtihekdlcfohkkaaGreatDoorW.PrintWords Go.Proofs.YtihekdlcfohkkaaGreatDoorW.PrintLast Go.Proofs.YtihekdlcfohkkaaGreatDoorW.PrintMore
attribute [local go_sem] max2_int min2_int max_two min_two max_three min_three max_four min_four strLss strGtr strLeq strGeq   -- for this text's walks alone
set_option linter.unusedVariables false
set_option linter.unusedSimpArgs false

/-! ### slices_Clone_string_string: function 105 -/
def slices_Clone_string_string.f (l0 : List ByteArray) : Option (List ByteArray) := (some (([] : List ByteArray) : List ByteArray)).bind fun y289 => (if y289.length + l0.length < 8796093022208 then (some (y289 ++ l0)) else (none))
theorem clonenil105 (w : World) (a : Option Addr) (m c m' c' : Nat) : (Go.binOp .eql 62 (.slice a m c) (.slice none m' c')).run Tryz.prog w = .ok (.bool a.isNone) w := Go.Lib.run_eql_slice_nil w 62 9 a m c m' c' Tryz.underlying62
attribute [local go_sem high] clonenil105
set_option maxHeartbeats 8000000 in
set_option maxRecDepth 100000 in
theorem slices_Clone_string_string.calls_some (ad0 : Addr) (c0 : Nat) (l0 : List ByteArray) (r : List ByteArray) (w : World) (hr0 : Kd.C Kd.string w (some ad0) l0.length l0) (hc0 : l0.length ≤ c0) (h : slices_Clone_string_string.f l0 = some r) :
  Calls Tryz.prog 105 #[.slice (some ad0) l0.length c0] w fun e w' => ∃ v0_ : Value, e = .returned (v0_) ∧ Kd.R Kd.string 9 w' w.heap.size (fun _ => True) v0_ r ∧ Below w.heap.size w w' := by
 have HR0 := Aside0.mk hr0; have HC0 := Aside0.mk hc0; clear hr0 hc0
 have HB := Aside0.mk (Below.refl w.heap.size w)
 have H : ((some (([] : List ByteArray) : List ByteArray)).bind fun y289 => (if y289.length + l0.length < 8796093022208 then (some (y289 ++ l0)) else (none))) = some r := h
 clear h
 obtain ⟨y289, hy_⟩ : ∃ y_ : List ByteArray, y_ = (([] : List ByteArray)) := ⟨_, rfl⟩
 replace H : (if y289.length + l0.length < 8796093022208 then (some (y289 ++ l0)) else (none)) = some r := yH
 have Ny289 := ak hy_; clear hy_; replace H := ifS H; obtain ⟨c2, H⟩ := H; have LMc2 := Aside0.mk c2; clear c2
 obtain ⟨y292, hy_⟩ : ∃ y_ : List ByteArray, y_ = (y289 ++ l0) := ⟨_, rfl⟩
 replace H : (some y292) = some r := yH
 have Ny292 := ak hy_; clear hy_
 obtain rfl := Option.some.inj H
 go_enter Tryz.func105, Tryz.ntmps105
 go_wp2_with (first | ((with_reducible refine gate_dst (N := 5) rfl ?_); refine Kd.R_lit Kd.string _ 9 ?hg (N := 5) ?hd (xs := ([] : List ByteArray)) (inner := []) (ok := fun _ => True) (okp := fun _ => True) ?hr ?hp (fun _ hk => hk) trivial (Below.refl _ _) (Nat.le_refl _) (by simp) ?_; (case hd => rfl); (case hg => rfl); (case hr => first | (go_simp; done) | (go_simp; rfl)); (case hp => exact (Reps.none _ _)); intro v290 w3 ho4 hb hg_ hnew_; clear hg_ hnew_; (first | rw [← Ny289.out] at ho4 | (simp only [Int.reduceToNat] at ho4; rw [← Ny289.out] at ho4)); have HO291 := ak (Kd.R_lower ho4 (below_size (belowd HB))); replace HB := ak (below_step (belowd HB) hb); clear hb ho4) | ((with_reducible refine gate_builtin (b := .append) (xs := #[.tmp 5, .tmp 6]) rfl ?_); at_builtin; refine Kd.R_append_rows Kd.string (w0 := w) w.heap.size rfl (.tmp 5) (.tmp 6) 62 9 (.string ⟨#[]⟩) 16 rfl Tryz.underlying62 info9 rfl (by decide) (by omega) v290 y289 l0 _ _ _ (fun _ => True) (fun _ => False) rfl rfl ?aO ?aR (fun _ _ h => h) (fun _ h => h.elim) ?aF ?aB ?aS ?aL ?_; (case aR => exact cd (Kd.C_below HR0.out HB.out)); (case aB => exact (belowd HB)); (case aF => exact (fun _ _ => trivial)); (case aO => exact (rdl HO291)); (case aS => exact (below_size (belowd HB))); (case aL => have := LMc2.out; omega); intro v293 w5 ho hb hg hat; rw [← Ny292.out] at ho; replace HB := ak (hb); have HO294 := ak (ho); clear HO291; clear ho hb hg hat))
 go_ret
 exact ⟨_, er2, by (with_reducible repeat (first | apply Kd.R_alloc | apply Kd.R_drewN | apply Kd.R_drew)); exact HO294.out, belowd HB⟩

set_option maxHeartbeats 8000000 in
set_option maxRecDepth 100000 in
theorem slices_Clone_string_string.calls (A0 : Option Addr) (c0 : Nat) (l0 : List ByteArray) (r : List ByteArray) (w : World) (hr0 : Kd.C Kd.string w A0 l0.length l0) (hc0 : l0.length ≤ c0) (h : slices_Clone_string_string.f l0 = some r) :
  Calls Tryz.prog 105 #[.slice A0 l0.length c0] w fun e w' => ∃ v0_ : Value, e = .returned (v0_) ∧ Kd.R Kd.string 9 w' w.heap.size (fun _ => True) v0_ r ∧ Below w.heap.size w w' := by
 cases A0 with
 | some ad0 => exact slices_Clone_string_string.calls_some ad0 c0 l0 r w hr0 hc0 h
 | none =>
  have hl : l0 = [] := by
   rcases Nat.eq_zero_or_pos l0.length with h0 | h0
   ·exact List.eq_nil_of_length_eq_zero h0
   ·obtain ⟨ad, he, _⟩ := hr0.2.2 h0
    cases he
  subst hl
  have hr : r = [] := by
   have h' := h
   simp [slices_Clone_string_string.f] at h'
   first | exact h'.symm | exact h'
  subst hr; clear h hr0 hc0
  go_enter Tryz.func105, Tryz.ntmps105
  go_wp2
  go_ret
  exact ⟨_, rfl, Kd.R_nil _ _ _ _ _, Below.refl _ _⟩

/-! ### impl_ownTexts: function 91 -/
def impl_ownTexts.l0 : Nat → List (List ByteArray) → List (List ByteArray) → Int → Int → Option ((List (List ByteArray)))
  | 0, _, _, _, _ => none
  | k + 1, x3, x7, x8, x9 => if x9 < x8 then (if 0 ≤ x9 then (if x9 < (x7.length : Int) then ((slices_Clone_string_string.f (rd_L2 x7 x9)).bind fun t299 => (if x3.length < 5864062014805 then (impl_ownTexts.l0 k (x3 ++ [t299]) x7 x8 (wrap64 (x9 + 1))) else (none))) else (none)) else (none)) else (some x3)
def impl_ownTexts.f (k : Nat) (l0 : List (List ByteArray)) : Option ((List (List ByteArray))) := impl_ownTexts.l0 k (([] : List (List ByteArray))) l0 (l0.length : Int) 0
theorem impl_ownTexts.mono_l : ∀ k, (∀ y0 y1 y2 y3, LeO (impl_ownTexts.l0 k y0 y1 y2 y3) (impl_ownTexts.l0 (k + 1) y0 y1 y2 y3))
 | 0 => fun _ _ _ _ r h => by simp [impl_ownTexts.l0] at h
 | k + 1 => by
  have ih0 := impl_ownTexts.mono_l k
  ·intro y0 y1 y2 y3
   unfold impl_ownTexts.l0
   repeat' (first | (with_reducible first | exact ih0 _ _ _ _ | exact LeO.refl _ | exact LeO.none _ | refine LeO.ite ?_ ?_ | refine LeO.bind ?_ (fun _ => ?_)) | exact ih0 _ _ _ _ | exact LeO.none _ | refine LeO.ite ?_ ?_ | refine LeO.bind ?_ (fun _ => ?_))
theorem impl_ownTexts.mono : ∀ a0 k, LeO (impl_ownTexts.f k a0) (impl_ownTexts.f (k + 1) a0) := by
 intro a0 k
 have ih0 := impl_ownTexts.mono_l k
 unfold impl_ownTexts.f
 repeat' (first | (with_reducible first | exact ih0 _ _ _ _ | exact LeO.refl _ | exact LeO.none _ | refine LeO.ite ?_ ?_ | refine LeO.bind ?_ (fun _ => ?_)) | exact ih0 _ _ _ _ | exact LeO.none _ | refine LeO.ite ?_ ?_ | refine LeO.bind ?_ (fun _ => ?_))
set_option maxHeartbeats 8000000 in
set_option maxRecDepth 100000 in
theorem impl_ownTexts.calls (k : Nat) (A0 : Option Addr) (c0 : Nat) (l0 : List (List ByteArray)) (r : List (List ByteArray)) (w : World) (hr0 : Kd.C (Kd.slice 9 Kd.string) w A0 l0.length l0) (hc0 : l0.length ≤ c0) (h : impl_ownTexts.f k l0 = some r) :
  Calls Tryz.prog 91 #[.slice A0 l0.length c0] w fun e w' => ∃ v0_ : Value, e = .returned (v0_) ∧ Kd.S (Kd.slice 9 Kd.string) 62 w' w.heap.size (fun _ => True) v0_ r ∧ Below w.heap.size w w' := by
 have HR0 := Aside0.mk hr0; have HC0 := Aside0.mk hc0; clear hr0 hc0
 have HB := Aside0.mk (Below.refl w.heap.size w)
 have H : (impl_ownTexts.l0 k (([] : List (List ByteArray))) l0 (l0.length : Int) 0) = some r := h
 clear h
 obtain ⟨y295, hy_⟩ : ∃ y_ : List (List ByteArray), y_ = (([] : List (List ByteArray))) := ⟨_, rfl⟩
 replace H : (impl_ownTexts.l0 k y295 l0 (l0.length : Int) 0) = some r := yH
 have Ny295 := ak hy_; clear hy_
 have H' := Aside0.mk H
 clear H
 go_enter Tryz.func91, Tryz.ntmps91
 go_wp2_with (first | ((with_reducible refine gate_dst (N := 6) rfl ?_); refine Kd.S_lit (Kd.slice 9 Kd.string) _ 62 ?hg (N := 6) ?hd (xs := ([] : List (List ByteArray))) (inner := []) (ok := fun _ => True) (okp := fun _ => True) ?hr ?hp (fun _ hk => hk) trivial (Below.refl _ _) (Nat.le_refl _) (by simp) ?_; (case hd => rfl); (case hg => rfl); (case hr => first | (go_simp; done) | (go_simp; rfl)); (case hp => exact (Reps.none _ _)); intro v296 w2 ho3 hb hg_ hnew_; clear hg_ hnew_; (first | rw [← Ny295.out] at ho3 | (simp only [Int.reduceToNat] at ho3; rw [← Ny295.out] at ho3)); have HO297 := ak (Kd.S_lower ho3 (below_size (belowd HB))); replace HB := ak (below_step (belowd HB) hb); clear hb ho3))
 go_loopg [3, 9] k (fun kq v3 v9 w' => ∃ (x3_1 : List (List ByteArray)) (x9_1 : Int), v9 = .int .i64 x9_1 ∧ Aside0 (impl_ownTexts.l0 kq x3_1 l0 (l0.length : Int) x9_1 = some r) ∧ Aside0 (kq ≤ k) ∧ Aside0 (Kd.S (Kd.slice 9 Kd.string) 62 w' w.heap.size (fun _ => True) v3 x3_1) ∧ Aside0 (Below w.heap.size w w'))
 case atStart => exact ⟨(y295), (0), er, H', ⟨Nat.le_refl _⟩, ⟨sd HO297⟩, ⟨belowd HB⟩⟩
 case round =>
  clear H'
  obtain ⟨x3_1, x9_1, rfl, HA, HK1, HO_3, HB⟩ := hrel
  cases gk with
  | zero => exact absurd HA.out (by simp [impl_ownTexts.l0])
  | succ k1 =>
   have H := HA.out; clear HA
   simp only [impl_ownTexts.l0] at H
   by_cases c4 : x9_1 < (l0.length : Int)
   ·rw [if_pos c4] at H
    have c4b0 : decide (x9_1 < (l0.length : Int)) = true := decide_eq_true c4
    clear c4; replace H := ifS H; obtain ⟨c5, H⟩ := H; have c5b0 := decide_eq_true c5; clear c5; replace H := ifS H; obtain ⟨c6, H⟩ := H; have c6b0 := decide_eq_true c6; clear c6; replace H := bS H; obtain ⟨t299, A7, H⟩ := H
    replace H : (if x3_1.length < 5864062014805 then (impl_ownTexts.l0 k1 (x3_1 ++ [t299]) l0 (l0.length : Int) (wrap64 (x9_1 + 1))) else (none)) = some r := H
    replace H := ifS H; obtain ⟨c8, H⟩ := H; have LMc8 := Aside0.mk c8; clear c8
    obtain ⟨y302, hy_⟩ : ∃ y_ : List (List ByteArray), y_ = (x3_1 ++ [t299]) := ⟨_, rfl⟩
    replace H : (impl_ownTexts.l0 k1 y302 l0 (l0.length : Int) (wrap64 (x9_1 + 1))) = some r := yH
    have Ny302 := ak hy_; clear hy_
    have H' := Aside0.mk H
    clear H
    have p298 : 0 ≤ (x9_1 : Int) := da
    have q298 : x9_1 < (l0.length : Int) := da
    obtain ⟨ad298, A298_0, c298_0, e298, hx298_0, hl298_0, hi298_0⟩ := at_L2 HR0.out x9_1 p298 q298
    cases e298
    replace hx298_0 := (HB.out.cell (World.block_lt_of_cell? w _ hx298_0)).trans hx298_0
    have HR298_0 := Aside0.mk hi298_0; have HC298_0 := Aside0.mk hl298_0; clear hi298_0 hl298_0; replace p298 := eq_true p298; replace q298 := eq_true q298
    go_wp2_with (first | ((with_reducible refine gate_callee (f := 105) rfl ?_); refine goesLa (some 15) rfl Tryz.func105 #[.slice A298_0 (rd_L2 l0 x9_1).length c298_0] rfl ?_; (with_reducible refine (slices_Clone_string_string.calls _ _ (rd_L2 l0 x9_1) t299 _ ?side1 ?side2 A7.out).mono ?_); (case side1 => exact cd (Kd.C_below HR298_0.out HB.out)); (case side2 => exact HC298_0.out); rintro e w9 ⟨v300, rfl, ho0, hb⟩; refine ⟨_, rfl, ?_⟩; replace HO_3 := ak (Kd.S_elder' (sd HO_3) (Kd.R_base ho0) hb); have HO301 := ak (Kd.R_lower ho0 (below_size (belowd HB))); replace HB := ak (below_step (belowd HB) hb); (try clear hb); (try clear ho0); obtain ⟨Ao11, co11, eo11⟩ := Kd.R_slice HO301.out; subst eo11) | ((with_reducible refine gate_builtin (b := .append) (xs := #[.tmp 13, .tmp 16]) rfl ?_); at_builtin; refine Kd.S_append (Kd.slice 9 Kd.string) (w0 := w) w.heap.size rfl (.tmp 13) (.tmp 16) 23 62 (.slice none 0 0) 24 rfl Tryz.underlying23 info62 rfl (by decide) (by omega) u3 x3_1 t299 [.slice Ao11 t299.length co11] (fun _ => True) (fun k_ => some k_ = (.slice Ao11 t299.length co11 : Value).ownBlock) rfl rfl ?aP (fun k_ hk_ => ((Kd.R_mono (ok' := fun k_ => ((fun _ => True)) k_ ∧ some k_ ≠ (u3 : Value).ownBlock) (Kd.R_apart' (HO301.out) (Kd.S_typed HO_3.out) (by decide)) (fun k_ hk => ⟨trivial, hk.2⟩))).1 k_ hk_.symm) ?aF ?aO ?aB ?aS ?aL ?_; (case aP => exact Kd.M_row (Kd.R_mono (Kd.R_tight rfl (Kd.R_mono (ok' := fun k_ => ((fun _ => True)) k_ ∧ some k_ ≠ (u3 : Value).ownBlock) (Kd.R_apart' (HO301.out) (Kd.S_typed HO_3.out) (by decide)) (fun k_ hk => ⟨trivial, hk.2⟩))) (fun _ h_ => h_))); (case aB => exact (belowd HB)); (case aF => exact (fun _ _ => trivial)); (case aO => exact (by (with_reducible repeat (first | apply Kd.S_alloc | apply Kd.S_drewN | apply Kd.S_drew)); exact Kd.S_mono HO_3.out (fun k_ hk => ⟨trivial, fun e_ => hk.2 e_⟩))); (case aS => exact (below_size (belowd HB))); (case aL => have := LMc8.out; omega); intro v303 w10 ho hb hg hat; rw [← Ny302.out] at ho; replace HB := ak (hb); have HO304 := ak (ho); clear HO_3 HO301; clear ho hb hg hat))
    go_roundg k1
    case measure => have := HK1.out; omega
    case rel => exact ⟨(y302), (wrap64 (x9_1 + 1)), er, H', ⟨by have := HK1.out; omega⟩, ⟨sd HO304⟩, ⟨belowd HB⟩⟩
   ·rw [if_neg c4] at H
    have c4b0 : decide (x9_1 < (l0.length : Int)) = false := decide_eq_false c4
    clear c4
    obtain rfl := Option.some.inj H
    go_wp2
    go_ret
    exact ⟨_, er2, by (with_reducible repeat (first | apply Kd.S_alloc | apply Kd.S_drewN | apply Kd.S_drew)); exact HO_3.out, belowd HB⟩

/-! ### impl_Net_own: function 55 -/
def impl_Net_own.T1 : Bool × List (List Nat × List Nat) := (true, [([], []), ([0], [0]), ([1], [1]), ([], []), ([3], [3]), ([4, 2], [4]), ([], []), ([6], [6]), ([7, 5], [7]), ([], []), ([9], [9]), ([10, 8], [10]), ([], []), ([12], [12]), ([2, 5, 8, 11, 13], [2, 5, 8, 11, 13]), ([14, 11, 0, 1, 2, 3, 4, 5, 6, 7, 8, 9, 10, 11, 12, 13, 14], [14])])
def impl_Net_own.B1 : List Nat := [0, 1, 3, 0, 8, 31, 0, 64, 255, 0, 512, 2047, 0, 4096, 16383, 32767]
theorem impl_Net_own.tab1 : rtab .any (opsOf Tryz.f55 1) = impl_Net_own.T1 := by kernel_rfl
theorem impl_Net_own.bits1 : waitsOk impl_Net_own.T1.2 impl_Net_own.B1 = true := by kernel_rfl
def impl_Net_own.f (k : Nat) (n : Nt) : Option Nt := (slices_Clone_int_int.f n.ks).bind fun t0 => (impl_ownTexts.f k n.ps).bind fun t1 => (impl_ownTexts.f k n.ss).bind fun t2 => (impl_ownTexts.f k n.ib).bind fun t3 => some ⟨t0, t1, t2, t3, n.sd⟩
set_option maxHeartbeats 16000000 in
set_option maxRecDepth 100000 in
theorem impl_Net_own.calls {k : Nat} {v0 v1 v2 v3 : Value} {n r : Nt} {w : World} (hn : NC w v0 v1 v2 v3 n) (h : impl_Net_own.f k n = some r) :
    Calls Tryz.prog 55 #[.agg #[v0, v1, v2, v3, .int .i64 n.sd]] w (MadeNet1 w r) := by
 obtain ⟨A0, c0, A1, c1, A2, c2, A3, c3, ⟨rfl, rfl, rfl, rfl⟩, ⟨x0, y0⟩, ⟨x1, y1⟩, ⟨x2, y2⟩, ⟨x3, y3⟩⟩ := hn
 have X0 := ak x0; have X1 := ak x1; have X2 := ak x2; have X3 := ak x3; have Y0 := ak y0; have Y1 := ak y1; have Y2 := ak y2; have Y3 := ak y3
 clear x0 x1 x2 x3 y0 y1 y2 y3
 obtain ⟨ks, ps, ss, ib, sd⟩ := n
 dsimp only at X0 X1 X2 X3 Y0 Y1 Y2 Y3 ⊢
 have hu27 := Tryz.underlying27
 have HS := Sep.nil w
 unfold impl_Net_own.f at h
 dsimp only at h
 replace h := bS h; obtain ⟨t0, T0, h⟩ := h
 replace h := bS h; obtain ⟨t1, T1, h⟩ := h
 replace h := bS h; obtain ⟨t2, T2, h⟩ := h
 replace h := bS h; obtain ⟨t3, T3, h⟩ := h
 obtain rfl := Option.some.inj h
 clear h
 go_enter Tryz.func55, Tryz.ntmps55
 go_upto_region 1 with (first | ((with_reducible refine gate_dst (N := 1) rfl ?_); refine boxev 1 #[.slice A0 ks.length c0, .slice A1 ps.length c1, .slice A2 ss.length c2, .slice A3 ib.length c3, .int .i64 sd] 27 ?_; intro b1 hg_ W_ ho_ hb_; replace HS := HS.box hg_ ho_ hb_; clear hg_ ho_ hb_; obtain ⟨z10, z11, z12, z13, z14, f10, f11, f12, f13, f14⟩ := box5 (HS.blk 0)) | ((with_reducible refine gate_dst (N := 2) rfl ?_); refine boxev 2 #[.slice none 0 0, .slice none 0 0, .slice none 0 0, .slice none 0 0, .int .i64 0] 27 ?_; intro b2 hg_ W_ ho_ hb_; replace HS := HS.box hg_ ho_ hb_; clear hg_ ho_ hb_; clear z10 z11 z12 z13 z14 f10 f11 f12 f13 f14; obtain ⟨z20, z21, z22, z23, z24, f20, f21, f22, f23, f24⟩ := box5 (HS.blk 0); clear z20 z21 z22 z23 z24 f20 f21 f22 f23 f24; obtain ⟨z20, z21, z22, z23, z24, f20, f21, f22, f23, f24⟩ := box5 (HS.blk 0); obtain ⟨z10, z11, z12, z13, z14, f10, f11, f12, f13, f14⟩ := box5 (HS.blk 1)))
 clear z20 z21 z22 z23 z24 f20 f21 f22 f23 f24 z10 z11 z12 z13 z14 f10 f11 f12 f13 f14
 obtain ⟨z10, z11, z12, z13, z14, f10, f11, f12, f13, f14⟩ := box5 (HS.blk 1)
 refine start_ (n := 16) (S := fun w' => w'.cell? ⟨b1, 0, none⟩ = some (.slice A0 ks.length c0) ∧ w'.cell? ⟨b1, 1, none⟩ = some (.slice A1 ps.length c1) ∧ w'.cell? ⟨b1, 2, none⟩ = some (.slice A2 ss.length c2) ∧ w'.cell? ⟨b1, 3, none⟩ = some (.slice A3 ib.length c3) ∧ w'.cell? ⟨b1, 4, none⟩ = some (.int .i64 sd)) (ds := []) (bl 16 0) (by kernel_rfl) rfl rfl ⟨z10, z11, z12, z13, z14⟩ (fun hHeld => ?_); refine with_tabW impl_Net_own.tab1 impl_Net_own.bits1 (fun HT_ HW_ => ?_)
 clear z10 z11 z12 z13 z14 f10 f11 f12 f13 f14
 replace HS := HS.drew
 generalize World.drew _ = W9_ at HS hHeld ⊢
 refine pureA 0 (some 3) 16 1 HT_ ?_
 refine takeA 1 (some 4) 16 3 HT_ HW_ hHeld ?_ (hy := by rintro w' ⟨s0, s1, s2, s3, s4⟩; go_simp; with_reducible rfl)
 refine pureA 3 (some 6) 16 11 HT_ ?_
 refine takeA 4 (some 7) 16 27 HT_ HW_ hHeld ?_ (hy := by rintro w' ⟨s0, s1, s2, s3, s4⟩; go_simp; with_reducible rfl)
 refine pureA 6 (some 9) 16 91 HT_ ?_
 refine takeA 7 (some 10) 16 219 HT_ HW_ hHeld ?_ (hy := by rintro w' ⟨s0, s1, s2, s3, s4⟩; go_simp; with_reducible rfl)
 refine pureA 9 (some 12) 16 731 HT_ ?_
 refine takeA 10 (some 13) 16 1755 HT_ HW_ hHeld ?_ (hy := by rintro w' ⟨s0, s1, s2, s3, s4⟩; go_simp; with_reducible rfl)
 refine pureA 12 (some 15) 16 5851 HT_ ?_
 refine takeA 13 (some 16) 16 14043 HT_ HW_ hHeld ?_ (hy := by rintro w' ⟨s0, s1, s2, s3, s4⟩; go_simp; with_reducible rfl)
 refine oneA 2 (some 5) 16 14047 HT_ (fun K hK => ?_)
 refine goes_ Tryz.func85 (by kernel_rfl) rfl #[.slice A0 ks.length c0] (by rfl) rfl rfl (by (try simp only [List.map_toArray, List.map_cons, List.map_nil]); first | done | rfl) ?_
 have HC_ := slices_Clone_int_int.calls _ _ ks t0 _ (Kd.C_below X0.out HS.base) Y0.out T0.out
 refine HC_.mono ?_
 clear HC_ hHeld
 rintro e W_ ⟨u0, rfl, ho_, hb_⟩
 refine ⟨_, rfl, ?_⟩
 replace HS := HS.new (A := rA KI 3 u0 t0) hb_ ho_
 obtain ⟨B0, d0, rfl⟩ := HS.slR 0
 clear ho_ hb_
 obtain ⟨z10, z11, z12, z13, z14, f10, f11, f12, f13, f14⟩ := box5 (HS.blk 2)
 refine hK.out _ _ ⟨z10, z11, z12, z13, z14⟩ (fun hHeld => ?_)
 clear hK K z10 z11 z12 z13 z14 f10 f11 f12 f13 f14
 refine norm_ (a' := ?_) ?_ ?_
 rotate_left
 ·show Act.put _ (some 5) _ = _
  simp only [Act.put, List.setIfInBounds_toArray, List.set_cons_zero, List.set_cons_succ, i64_w, i32_w]
  rfl
 refine oneA 5 (some 8) 16 14079 HT_ (fun K hK => ?_)
 refine goes_ Tryz.func91 (by kernel_rfl) rfl #[.slice A1 ps.length c1] (by rfl) rfl rfl (by (try simp only [List.map_toArray, List.map_cons, List.map_nil]); first | done | rfl) ?_
 have HC_ := impl_ownTexts.calls k _ _ ps t1 _ (Kd.C_below X1.out HS.base) Y1.out T1.out
 refine HC_.mono ?_
 clear HC_ hHeld
 rintro e W_ ⟨u1, rfl, ho_, hb_⟩
 refine ⟨_, rfl, ?_⟩
 replace HS := HS.new (A := sA KT 62 u1 t1) hb_ ho_
 obtain ⟨B1, d1, rfl⟩ := HS.slS 0
 clear ho_ hb_
 obtain ⟨z10, z11, z12, z13, z14, f10, f11, f12, f13, f14⟩ := box5 (HS.blk 3)
 refine hK.out _ _ ⟨z10, z11, z12, z13, z14⟩ (fun hHeld => ?_)
 clear hK K z10 z11 z12 z13 z14 f10 f11 f12 f13 f14
 refine norm_ (a' := ?_) ?_ ?_
 rotate_left
 ·show Act.put _ (some 8) _ = _
  simp only [Act.put, List.setIfInBounds_toArray, List.set_cons_zero, List.set_cons_succ, i64_w, i32_w]
  rfl
 refine oneA 8 (some 11) 16 14335 HT_ (fun K hK => ?_)
 refine goes_ Tryz.func91 (by kernel_rfl) rfl #[.slice A2 ss.length c2] (by rfl) rfl rfl (by (try simp only [List.map_toArray, List.map_cons, List.map_nil]); first | done | rfl) ?_
 have HC_ := impl_ownTexts.calls k _ _ ss t2 _ (Kd.C_below X2.out HS.base) Y2.out T2.out
 refine HC_.mono ?_
 clear HC_ hHeld
 rintro e W_ ⟨u2, rfl, ho_, hb_⟩
 refine ⟨_, rfl, ?_⟩
 replace HS := HS.new (A := sA KT 62 u2 t2) hb_ ho_
 obtain ⟨B2, d2, rfl⟩ := HS.slS 0
 clear ho_ hb_
 obtain ⟨z10, z11, z12, z13, z14, f10, f11, f12, f13, f14⟩ := box5 (HS.blk 4)
 refine hK.out _ _ ⟨z10, z11, z12, z13, z14⟩ (fun hHeld => ?_)
 clear hK K z10 z11 z12 z13 z14 f10 f11 f12 f13 f14
 refine norm_ (a' := ?_) ?_ ?_
 rotate_left
 ·show Act.put _ (some 11) _ = _
  simp only [Act.put, List.setIfInBounds_toArray, List.set_cons_zero, List.set_cons_succ, i64_w, i32_w]
  rfl
 refine oneA 11 (some 14) 16 16383 HT_ (fun K hK => ?_)
 refine goes_ Tryz.func91 (by kernel_rfl) rfl #[.slice A3 ib.length c3] (by rfl) rfl rfl (by (try simp only [List.map_toArray, List.map_cons, List.map_nil]); first | done | rfl) ?_
 have HC_ := impl_ownTexts.calls k _ _ ib t3 _ (Kd.C_below X3.out HS.base) Y3.out T3.out
 refine HC_.mono ?_
 clear HC_ hHeld
 rintro e W_ ⟨u3, rfl, ho_, hb_⟩
 refine ⟨_, rfl, ?_⟩
 replace HS := HS.new (A := sA KT 62 u3 t3) hb_ ho_
 obtain ⟨B3, d3, rfl⟩ := HS.slS 0
 clear ho_ hb_
 obtain ⟨z10, z11, z12, z13, z14, f10, f11, f12, f13, f14⟩ := box5 (HS.blk 5)
 refine hK.out _ _ ⟨z10, z11, z12, z13, z14⟩ (fun hHeld => ?_)
 clear hK K z10 z11 z12 z13 z14 f10 f11 f12 f13 f14
 refine norm_ (a' := ?_) ?_ ?_
 rotate_left
 ·show Act.put _ (some 14) _ = _
  simp only [Act.put, List.setIfInBounds_toArray, List.set_cons_zero, List.set_cons_succ, i64_w, i32_w]
  rfl
 refine pureA 14 (some 17) 16 32767 HT_ ?_
 refine oneA 15 none 16 65535 HT_ (fun K hK => ?_)
 clear hHeld
 obtain ⟨z20, z21, z22, z23, z24, f20, f21, f22, f23, f24⟩ := box5 (HS.blk 4)
 refine skip_ (w1 := ?_) (by rfl) rfl ?_ ?_
 rotate_left
 ·go_simp
  rfl
 replace HS := (((((HS.putI 4 0 (.slice B0 t0.length d0) #[.slice B0 t0.length d0, .slice none 0 0, .slice none 0 0, .slice none 0 0, .int .i64 0]).putI 4 1 (.slice B1 t1.length d1) #[.slice B0 t0.length d0, .slice B1 t1.length d1, .slice none 0 0, .slice none 0 0, .int .i64 0]).putI 4 2 (.slice B2 t2.length d2) #[.slice B0 t0.length d0, .slice B1 t1.length d1, .slice B2 t2.length d2, .slice none 0 0, .int .i64 0]).putI 4 3 (.slice B3 t3.length d3) #[.slice B0 t0.length d0, .slice B1 t1.length d1, .slice B2 t2.length d2, .slice B3 t3.length d3, .int .i64 0]).putI 4 4 (.int .i64 sd) #[.slice B0 t0.length d0, .slice B1 t1.length d1, .slice B2 t2.length d2, .slice B3 t3.length d3, .int .i64 sd])
 clear z20 z21 z22 z23 z24 f20 f21 f22 f23 f24
 obtain ⟨z10, z11, z12, z13, z14, f10, f11, f12, f13, f14⟩ := box5 (HS.blk 5)
 refine hK.out _ _ ⟨z10, z11, z12, z13, z14⟩ (fun hHeld => ?_)
 clear hK K z10 z11 z12 z13 z14 f10 f11 f12 f13 f14
 refine done_ (done_of HT_.out (by kernel_rfl)) ?_
 clear HT_ HW_ hHeld
 go_wp2
 refine bodyPost_ret (results_cell_row rfl _ _ b2 27 #[.slice B0 t0.length d0, .slice B1 t1.length d1, .slice B2 t2.length d2, .slice B3 t3.length d3, .int .i64 sd] (0, 0) _ rfl (by exact (HS.blk 4).out) Tryz.underlying27 rfl (by kernel_rfl)) rfl ?_
 exact ⟨_, _, _, _, rfl, (HS.sel [3, 2, 1, 0]).cols, HS.base⟩

/-! ### cmp_isNaN_string: function 165 -/
def cmp_isNaN_string.f (a0 : ByteArray) : Option (Bool) := some (a0.toList != a0.toList)
set_option maxHeartbeats 8000000 in
set_option maxRecDepth 100000 in
theorem cmp_isNaN_string.calls (a0 : ByteArray) (r : Bool) (w : World) (h : cmp_isNaN_string.f a0 = some r) :
  Calls Tryz.prog 165 #[.string a0] w fun e w' => e = .returned (.bool r) ∧ Drawn0 w w' := by
 have H : (some (a0.toList != a0.toList)) = some r := h
 clear h
 obtain rfl := Option.some.inj H
 go_enter Tryz.func165, Tryz.ntmps165
 go_wp2
 go_ret
 exact ⟨er, drw⟩

/-! ### cmp_Less_string: function 149 -/
def cmp_Less_string.f (a0 : ByteArray) (a1 : ByteArray) : Option (Bool) := (cmp_isNaN_string.f a0).bind fun t305 => (if t305 = true then ((cmp_isNaN_string.f a1).bind fun t306 => (if t306 = true then (some (Op.bytesLess a0.toList a1.toList)) else (some true))) else (some (Op.bytesLess a0.toList a1.toList)))
set_option maxHeartbeats 8000000 in
set_option maxRecDepth 100000 in
theorem cmp_Less_string.calls (a0 : ByteArray) (a1 : ByteArray) (r : Bool) (w : World) (h : cmp_Less_string.f a0 a1 = some r) :
  Calls Tryz.prog 149 #[.string a0, .string a1] w fun e w' => e = .returned (.bool r) ∧ Drawn0 w w' := by
 have H : ((cmp_isNaN_string.f a0).bind fun t305 => (if t305 = true then ((cmp_isNaN_string.f a1).bind fun t306 => (if t306 = true then (some (Op.bytesLess a0.toList a1.toList)) else (some true))) else (some (Op.bytesLess a0.toList a1.toList)))) = some r := h
 clear h; replace H := bS H; obtain ⟨t305, A3, H⟩ := H
 replace H : (if t305 = true then ((cmp_isNaN_string.f a1).bind fun t306 => (if t306 = true then (some (Op.bytesLess a0.toList a1.toList)) else (some true))) else (some (Op.bytesLess a0.toList a1.toList))) = some r := H
 by_cases c4 : t305 = true
 ·subst c4
  have H1 : ((cmp_isNaN_string.f a1).bind fun t306 => (if t306 = true then (some (Op.bytesLess a0.toList a1.toList)) else (some true))) = some r := by rw [if_pos rfl] at H; exact H
  clear H
  have H := H1
  clear H1; replace H := bS H; obtain ⟨t306, A5, H⟩ := H
  replace H : (if t306 = true then (some (Op.bytesLess a0.toList a1.toList)) else (some true)) = some r := H
  by_cases c6 : t306 = true
  ·subst c6
   have H1 : (some (Op.bytesLess a0.toList a1.toList)) = some r := by rw [if_pos rfl] at H; exact H
   clear H
   have H := H1
   clear H1
   obtain rfl := Option.some.inj H
   go_enter Tryz.func149, Tryz.ntmps149
   go_wp2_with (first | ((with_reducible refine gate_callee (f := 165) rfl ?_); refine goesLa (some 6) rfl Tryz.func165 #[.string a0] rfl ?_; (with_reducible refine (cmp_isNaN_string.calls a0 true _ A3.out).mono ?_); rintro e w' ⟨rfl, ⟨nd, rfl⟩⟩; refine ⟨_, rfl, ?_⟩) | (go_at_call 165; (with_reducible refine (cmp_isNaN_string.calls a1 true _ A5.out).mono ?_); rintro e w' ⟨rfl, ⟨nd, rfl⟩⟩))
   go_ret
   exact ⟨er, drw⟩
  ·replace c6 := Bool.eq_false_iff.mpr c6
   subst c6
   have H1 : (some true) = some r := by rw [if_neg (show ¬ (false = true) by decide)] at H; exact H
   clear H
   have H := H1
   clear H1
   obtain rfl := Option.some.inj H
   go_enter Tryz.func149, Tryz.ntmps149
   go_wp2_with (first | ((with_reducible refine gate_callee (f := 165) rfl ?_); refine goesLa (some 6) rfl Tryz.func165 #[.string a0] rfl ?_; (with_reducible refine (cmp_isNaN_string.calls a0 true _ A3.out).mono ?_); rintro e w' ⟨rfl, ⟨nd, rfl⟩⟩; refine ⟨_, rfl, ?_⟩) | (go_at_call 165; (with_reducible refine (cmp_isNaN_string.calls a1 false _ A5.out).mono ?_); rintro e w' ⟨rfl, ⟨nd, rfl⟩⟩))
   go_ret
   exact ⟨er, drw⟩
 ·replace c4 := Bool.eq_false_iff.mpr c4
  subst c4
  have H1 : (some (Op.bytesLess a0.toList a1.toList)) = some r := by rw [if_neg (show ¬ (false = true) by decide)] at H; exact H
  clear H
  have H := H1
  clear H1
  obtain rfl := Option.some.inj H
  go_enter Tryz.func149, Tryz.ntmps149
  go_wp2_with (first | ((with_reducible refine gate_callee (f := 165) rfl ?_); refine goesLa (some 6) rfl Tryz.func165 #[.string a0] rfl ?_; (with_reducible refine (cmp_isNaN_string.calls a0 false _ A3.out).mono ?_); rintro e w' ⟨rfl, ⟨nd, rfl⟩⟩; refine ⟨_, rfl, ?_⟩))
  go_ret
  exact ⟨er, drw⟩

/-! ### slices_isNaN_string: function 150 -/
def slices_isNaN_string.f (a0 : ByteArray) : Option (Bool) := some (a0.toList != a0.toList)
set_option maxHeartbeats 8000000 in
set_option maxRecDepth 100000 in
theorem slices_isNaN_string.calls (a0 : ByteArray) (r : Bool) (w : World) (h : slices_isNaN_string.f a0 = some r) :
  Calls Tryz.prog 150 #[.string a0] w fun e w' => e = .returned (.bool r) ∧ Drawn0 w w' := by
 have H : (some (a0.toList != a0.toList)) = some r := h
 clear h
 obtain rfl := Option.some.inj H
 go_enter Tryz.func150, Tryz.ntmps150
 go_wp2
 go_ret
 exact ⟨er, drw⟩

/-! ### slices_BinarySearch_string_string: function 133 -/
def slices_BinarySearch_string_string.l0 : Nat → List ByteArray → ByteArray → Int → Int → Int → Option (Int × Bool)
  | 0, _, _, _, _, _ => none
  | k + 1, x0, x1, x6, x7, x8 => if x7 < x8 then (if 0 ≤ (wrap64 ((IntKind.u64.wrap (wrap64 (x7 + x8))) / 2)) then (if (wrap64 ((IntKind.u64.wrap (wrap64 (x7 + x8))) / 2)) < (x0.length : Int) then ((cmp_Less_string.f (rdOf ByteArray.empty x0 (wrap64 ((IntKind.u64.wrap (wrap64 (x7 + x8))) / 2))) x1).bind fun t308 => (if t308 = true then (slices_BinarySearch_string_string.l0 k x0 x1 x6 (wrap64 ((wrap64 ((IntKind.u64.wrap (wrap64 (x7 + x8))) / 2)) + 1)) x8) else (slices_BinarySearch_string_string.l0 k x0 x1 x6 x7 (wrap64 ((IntKind.u64.wrap (wrap64 (x7 + x8))) / 2))))) else (none)) else (none)) else (if x7 < x6 then (if 0 ≤ x7 then (if x7 < (x0.length : Int) then (if (rdOf ByteArray.empty x0 x7).toList = x1.toList then (some (x7, true)) else ((slices_isNaN_string.f (rdOf ByteArray.empty x0 x7)).bind fun t311 => (if t311 = true then ((slices_isNaN_string.f x1).bind fun t312 => (some (x7, t312))) else (some (x7, false))))) else (none)) else (none)) else (some (x7, false)))
def slices_BinarySearch_string_string.f (k : Nat) (l0 : List ByteArray) (a1 : ByteArray) : Option (Int × Bool) := slices_BinarySearch_string_string.l0 k l0 a1 (l0.length : Int) 0 (l0.length : Int)
theorem slices_BinarySearch_string_string.mono_l : ∀ k, (∀ y0 y1 y2 y3 y4, LeO (slices_BinarySearch_string_string.l0 k y0 y1 y2 y3 y4) (slices_BinarySearch_string_string.l0 (k + 1) y0 y1 y2 y3 y4))
 | 0 => fun _ _ _ _ _ r h => by simp [slices_BinarySearch_string_string.l0] at h
 | k + 1 => by
  have ih0 := slices_BinarySearch_string_string.mono_l k
  ·intro y0 y1 y2 y3 y4
   unfold slices_BinarySearch_string_string.l0
   repeat' (first | (with_reducible first | exact ih0 _ _ _ _ _ | exact LeO.refl _ | exact LeO.none _ | refine LeO.ite ?_ ?_ | refine LeO.bind ?_ (fun _ => ?_)) | exact ih0 _ _ _ _ _ | exact LeO.none _ | refine LeO.ite ?_ ?_ | refine LeO.bind ?_ (fun _ => ?_))
theorem slices_BinarySearch_string_string.mono : ∀ a0 a1 k, LeO (slices_BinarySearch_string_string.f k a0 a1) (slices_BinarySearch_string_string.f (k + 1) a0 a1) := by
 intro a0 a1 k
 have ih0 := slices_BinarySearch_string_string.mono_l k
 unfold slices_BinarySearch_string_string.f
 repeat' (first | (with_reducible first | exact ih0 _ _ _ _ _ | exact LeO.refl _ | exact LeO.none _ | refine LeO.ite ?_ ?_ | refine LeO.bind ?_ (fun _ => ?_)) | exact ih0 _ _ _ _ _ | exact LeO.none _ | refine LeO.ite ?_ ?_ | refine LeO.bind ?_ (fun _ => ?_))
set_option maxHeartbeats 8000000 in
set_option maxRecDepth 100000 in
theorem slices_BinarySearch_string_string.calls (k : Nat) (A0 : Option Addr) (c0 : Nat) (l0 : List ByteArray) (a1 : ByteArray) (r1 : Int) (r2 : Bool) (w : World) (hr0 : Kd.C Kd.string w A0 l0.length l0) (hc0 : l0.length ≤ c0) (h : slices_BinarySearch_string_string.f k l0 a1 = some (r1, r2)) :
  Calls Tryz.prog 133 #[.slice A0 l0.length c0, .string a1] w fun e w' => e = .returned (.tuple #[.int .i64 r1, .bool r2]) ∧ Drawn0 w w' := by
 have HR0 := Aside0.mk hr0; have HC0 := Aside0.mk hc0; clear hr0 hc0
 have H : (slices_BinarySearch_string_string.l0 k l0 a1 (l0.length : Int) 0 (l0.length : Int)) = some (r1, r2) := h
 clear h
 have H' := Aside0.mk H
 clear H
 go_enter Tryz.func133, Tryz.ntmps133
 go_wp2
 go_loopg [7, 8] k (fun kq v7 v8 w' => ∃ (x7_1 : Int) (x8_1 : Int), v7 = .int .i64 x7_1 ∧ v8 = .int .i64 x8_1 ∧ Aside0 (slices_BinarySearch_string_string.l0 kq l0 a1 (l0.length : Int) x7_1 x8_1 = some (r1, r2)) ∧ Aside0 (kq ≤ k) ∧ Drawn0 w w')
 case atStart => exact ⟨(0), ((l0.length : Int)), er, er, H', ⟨Nat.le_refl _⟩, drw⟩
 case round =>
  clear H'
  obtain ⟨x7_1, x8_1, rfl, rfl, HA, HK1, ⟨m1, rfl⟩⟩ := hrel
  cases gk with
  | zero => exact absurd HA.out (by simp [slices_BinarySearch_string_string.l0])
  | succ k1 =>
   have H := HA.out; clear HA
   simp only [slices_BinarySearch_string_string.l0] at H
   by_cases c3 : x7_1 < x8_1
   ·rw [if_pos c3] at H
    have c3b0 : decide (x7_1 < x8_1) = true := decide_eq_true c3
    clear c3
    obtain ⟨ji4, hji4⟩ : ∃ j_ : Int, (wrap64 ((IntKind.u64.wrap (wrap64 (x7_1 + x8_1))) / 2)) = j_ := ⟨_, rfl⟩
    replace H : (if 0 ≤ (ji4) then (if (ji4) < (l0.length : Int) then ((cmp_Less_string.f (rdOf ByteArray.empty l0 (ji4)) a1).bind fun t308 => (if t308 = true then (slices_BinarySearch_string_string.l0 k1 l0 a1 (l0.length : Int) (wrap64 ((ji4) + 1)) x8_1) else (slices_BinarySearch_string_string.l0 k1 l0 a1 (l0.length : Int) x7_1 ji4))) else (none)) else (none)) = some (r1, r2) := by first | (rw [hji4] at H; exact H) | (simp only [hji4] at H ⊢; exact H)
    have hji4w : (IntKind.i64.wrap ((IntKind.u64.wrap (wrap64 (x7_1 + x8_1))) / 2)) = ji4 := (i64_w _).trans hji4
    replace H := ifS H; obtain ⟨c5, H⟩ := H; have c5b0 := decide_eq_true c5; clear c5; replace H := ifS H; obtain ⟨c6, H⟩ := H; have c6b0 := decide_eq_true c6; clear c6; replace H := bS H; obtain ⟨t308, A7, H⟩ := H
    replace H : (if t308 = true then (slices_BinarySearch_string_string.l0 k1 l0 a1 (l0.length : Int) (wrap64 ((ji4) + 1)) x8_1) else (slices_BinarySearch_string_string.l0 k1 l0 a1 (l0.length : Int) x7_1 ji4)) = some (r1, r2) := H
    by_cases c8 : t308 = true
    ·subst c8
     have H1 : (slices_BinarySearch_string_string.l0 k1 l0 a1 (l0.length : Int) (wrap64 ((ji4) + 1)) x8_1) = some (r1, r2) := by rw [if_pos rfl] at H; exact H
     clear H
     have H := H1
     clear H1
     have H' := Aside0.mk H
     clear H
     have p307 : 0 ≤ ((ji4) : Int) := da
     have q307 : (ji4) < (l0.length : Int) := da
     obtain ⟨ad307, e307, hx307_0⟩ := Kd.at_string HR0.out (ji4) p307 q307
     cases e307
     replace p307 := eq_true p307; replace q307 := eq_true q307
     go_wp2_with (first | ((with_reducible refine gate_callee (f := 149) rfl ?_); refine goesL_ (some 27) rfl rfl Tryz.func149 (by kernel_rfl) rfl #[.string (rdOf ByteArray.empty l0 (ji4)), .string a1] rfl (by (try simp only [List.map_toArray, List.map_cons, List.map_nil]); first | done | (simp only [hji4]; rfl) | rfl | (simp only [List.length_drop, List.length_take]; rfl)) ?_; (with_reducible refine (cmp_Less_string.calls (rdOf ByteArray.empty l0 (ji4)) a1 true _ A7.out).mono ?_); rintro e w' ⟨rfl, ⟨nd, rfl⟩⟩; refine ⟨_, rfl, ?_⟩))
     go_roundg k1
     case measure => have := HK1.out; omega
     case rel => exact ⟨(wrap64 ((ji4) + 1)), (x8_1), (by first | rfl | (simp; done) | (simp only [← hji4] <;> (first | rfl | simp)) | (simp [*]; done)), er, H', ⟨by have := HK1.out; omega⟩, drw⟩
    ·replace c8 := Bool.eq_false_iff.mpr c8
     subst c8
     have H1 : (slices_BinarySearch_string_string.l0 k1 l0 a1 (l0.length : Int) x7_1 ji4) = some (r1, r2) := by rw [if_neg (show ¬ (false = true) by decide)] at H; exact H
     clear H
     have H := H1
     clear H1
     have H' := Aside0.mk H
     clear H
     have p307 : 0 ≤ ((ji4) : Int) := da
     have q307 : (ji4) < (l0.length : Int) := da
     obtain ⟨ad307, e307, hx307_0⟩ := Kd.at_string HR0.out (ji4) p307 q307
     cases e307
     replace p307 := eq_true p307; replace q307 := eq_true q307
     go_wp2_with (first | ((with_reducible refine gate_callee (f := 149) rfl ?_); refine goesL_ (some 27) rfl rfl Tryz.func149 (by kernel_rfl) rfl #[.string (rdOf ByteArray.empty l0 (ji4)), .string a1] rfl (by (try simp only [List.map_toArray, List.map_cons, List.map_nil]); first | done | (simp only [hji4]; rfl) | rfl | (simp only [List.length_drop, List.length_take]; rfl)) ?_; (with_reducible refine (cmp_Less_string.calls (rdOf ByteArray.empty l0 (ji4)) a1 false _ A7.out).mono ?_); rintro e w' ⟨rfl, ⟨nd, rfl⟩⟩; refine ⟨_, rfl, ?_⟩))
     go_roundg k1
     case measure => have := HK1.out; omega
     case rel => exact ⟨(x7_1), (ji4), er, (by first | rfl | (simp; done) | (simp only [← hji4] <;> (first | rfl | simp)) | (simp [*]; done)), H', ⟨by have := HK1.out; omega⟩, drw⟩
   ·rw [if_neg c3] at H
    have c3b0 : decide (x7_1 < x8_1) = false := decide_eq_false c3
    clear c3
    by_cases c9 : x7_1 < (l0.length : Int)
    ·rw [if_pos c9] at H
     have c9b0 : decide (x7_1 < (l0.length : Int)) = true := decide_eq_true c9
     clear c9; replace H := ifS H; obtain ⟨c10, H⟩ := H; have c10b0 := decide_eq_true c10; clear c10; replace H := ifS H; obtain ⟨c11, H⟩ := H; have c11b0 := decide_eq_true c11; clear c11
     by_cases c12 : (rdOf ByteArray.empty l0 x7_1).toList = a1.toList
     ·rw [if_pos c12] at H
      have c12b0 : ((rdOf ByteArray.empty l0 x7_1).toList == a1.toList) = true := beq_iff_eq.mpr c12
      have c12b1 : ((rdOf ByteArray.empty l0 x7_1).toList != a1.toList) = false := bne_eq_false_iff_eq.mpr c12
      clear c12
      simp only [Option.some.injEq, Prod.mk.injEq] at H
      obtain ⟨rfl, rfl⟩ := H
      have p309 : 0 ≤ (x7_1 : Int) := da
      have q309 : x7_1 < (l0.length : Int) := da
      obtain ⟨ad309, e309, hx309_0⟩ := Kd.at_string HR0.out x7_1 p309 q309
      cases e309
      replace p309 := eq_true p309; replace q309 := eq_true q309; go_wp2
      go_ret2
      exact ⟨er, drw⟩
     ·rw [if_neg c12] at H
      have c12b0 : ((rdOf ByteArray.empty l0 x7_1).toList == a1.toList) = false := beq_eq_false_iff_ne.mpr c12
      have c12b1 : ((rdOf ByteArray.empty l0 x7_1).toList != a1.toList) = true := bne_iff_ne.mpr c12
      replace H := bS H; obtain ⟨t311, A13, H⟩ := H
      replace H : (if t311 = true then ((slices_isNaN_string.f a1).bind fun t312 => (some (x7_1, t312))) else (some (x7_1, false))) = some (r1, r2) := H
      by_cases c14 : t311 = true
      ·subst c14
       have H1 : ((slices_isNaN_string.f a1).bind fun t312 => (some (x7_1, t312))) = some (r1, r2) := by rw [if_pos rfl] at H; exact H
       clear H
       have H := H1
       clear H1; replace H := bS H; obtain ⟨t312, A15, H⟩ := H
       replace H : (some (x7_1, t312)) = some (r1, r2) := H
       simp only [Option.some.injEq, Prod.mk.injEq] at H
       obtain ⟨rfl, rfl⟩ := H
       have p309 : 0 ≤ (x7_1 : Int) := da
       have q309 : x7_1 < (l0.length : Int) := da
       obtain ⟨ad309, e309, hx309_0⟩ := Kd.at_string HR0.out x7_1 p309 q309
       cases e309
       replace p309 := eq_true p309; replace q309 := eq_true q309
       have p310 : 0 ≤ (x7_1 : Int) := da
       have q310 : x7_1 < (l0.length : Int) := da
       obtain ⟨ad310, e310, hx310_0⟩ := Kd.at_string HR0.out x7_1 p310 q310
       obtain rfl : ad309 = ad310 := (by injection e310)
       replace p310 := eq_true p310; replace q310 := eq_true q310
       go_wp2_with (first | (go_at_call 150; (with_reducible refine (slices_isNaN_string.calls (rdOf ByteArray.empty l0 x7_1) true _ A13.out).mono ?_); rintro e w' ⟨rfl, ⟨nd, rfl⟩⟩) | (go_at_call 150; (with_reducible refine (slices_isNaN_string.calls a1 t312 _ A15.out).mono ?_); rintro e w' ⟨rfl, ⟨nd, rfl⟩⟩))
       go_ret2
       exact ⟨er, drw⟩
      ·replace c14 := Bool.eq_false_iff.mpr c14
       subst c14
       have H1 : (some (x7_1, false)) = some (r1, r2) := by rw [if_neg (show ¬ (false = true) by decide)] at H; exact H
       clear H
       have H := H1
       clear H1
       simp only [Option.some.injEq, Prod.mk.injEq] at H
       obtain ⟨rfl, rfl⟩ := H
       have p309 : 0 ≤ (x7_1 : Int) := da
       have q309 : x7_1 < (l0.length : Int) := da
       obtain ⟨ad309, e309, hx309_0⟩ := Kd.at_string HR0.out x7_1 p309 q309
       cases e309
       replace p309 := eq_true p309; replace q309 := eq_true q309
       have p310 : 0 ≤ (x7_1 : Int) := da
       have q310 : x7_1 < (l0.length : Int) := da
       obtain ⟨ad310, e310, hx310_0⟩ := Kd.at_string HR0.out x7_1 p310 q310
       obtain rfl : ad309 = ad310 := (by injection e310)
       replace p310 := eq_true p310; replace q310 := eq_true q310
       go_wp2_with (first | (go_at_call 150; (with_reducible refine (slices_isNaN_string.calls (rdOf ByteArray.empty l0 x7_1) false _ A13.out).mono ?_); rintro e w' ⟨rfl, ⟨nd, rfl⟩⟩))
       go_ret2
       exact ⟨er, drw⟩
    ·rw [if_neg c9] at H
     have c9b0 : decide (x7_1 < (l0.length : Int)) = false := decide_eq_false c9
     clear c9
     simp only [Option.some.injEq, Prod.mk.injEq] at H
     obtain ⟨rfl, rfl⟩ := H; go_wp2
     go_ret2
     exact ⟨er, drw⟩

-- NOT PRINTED: function 134 (slices_Insert_string_string)

/-! ### impl_placed_string: function 119 -/
def impl_placed_string.f (k : Nat) (l0 : List ByteArray) (a1 : ByteArray) : Option (List ByteArray) := (slices_BinarySearch_string_string.f k l0 a1).bind fun t => ((slices_Clone_string_string.f l0).bind fun c => (if c.length ≤ 4194304 then (if 0 ≤ t.1 then (if t.1 ≤ (c.length : Int) then (some (c.take t.1.toNat ++ a1 :: c.drop t.1.toNat)) else (none)) else (none)) else (none)))
theorem impl_placed_string.mono : ∀ a0 a1 k, LeO (impl_placed_string.f k a0 a1) (impl_placed_string.f (k + 1) a0 a1) := by
 intro a0 a1 k
 unfold impl_placed_string.f
 exact LeO.bind (slices_BinarySearch_string_string.mono _ _ _) (fun _ => LeO.refl _)
set_option maxHeartbeats 8000000 in
set_option maxRecDepth 100000 in
theorem impl_placed_string.calls (k : Nat) (A0 : Option Addr) (c0 : Nat) (l0 : List ByteArray) (a1 : ByteArray) (r : List ByteArray) (w : World) (hr0 : Kd.C Kd.string w A0 l0.length l0) (hc0 : l0.length ≤ c0) (h : impl_placed_string.f k l0 a1 = some r) :
  Calls Tryz.prog 119 #[.slice A0 l0.length c0, .string a1] w fun e w' => ∃ v0_ : Value, e = .returned (v0_) ∧ Kd.R Kd.string 9 w' w.heap.size (fun _ => True) v0_ r ∧ Below w.heap.size w w' := by
 have HR0 := Aside0.mk hr0; have HC0 := Aside0.mk hc0; clear hr0 hc0
 have HB := Aside0.mk (Below.refl w.heap.size w)
 unfold impl_placed_string.f at h
 replace h := bS h
 obtain ⟨⟨t1, t2⟩, A1, h⟩ := h
 replace h := bS h
 obtain ⟨c, A2, h⟩ := h
 replace h := ifS h
 obtain ⟨c1, h⟩ := h
 replace h := ifS h
 obtain ⟨c2, h⟩ := h
 replace h := ifS h
 obtain ⟨c3, h⟩ := h
 dsimp only at c2 c3 h
 obtain ⟨i, rfl⟩ := Int.eq_ofNat_of_zero_le c2
 obtain rfl := Option.some.inj h
 rw [Int.toNat_natCast]
 clear h
 have LI := Aside0.mk (show i ≤ c.length by omega)
 have LC := Aside0.mk c1; clear c1 c2 c3
 go_enter Tryz.func119, Tryz.ntmps119
 go_wp2_with (first | ((with_reducible refine gate_callee (f := 133) rfl ?_); refine goesLa (some 10) rfl Tryz.func133 #[.slice A0 l0.length c0, .string a1] rfl ?_; (with_reducible refine (slices_BinarySearch_string_string.calls k _ _ l0 a1 (i : Int) t2 _ HR0.out HC0.out A1.out).mono ?_); rintro e w1 ⟨rfl, ⟨nd, rfl⟩⟩; refine ⟨_, rfl, ?_⟩) | ((with_reducible refine gate_callee (f := 105) rfl ?_); refine goesLa (some 14) rfl Tryz.func105 #[.slice A0 l0.length c0] rfl ?_; (with_reducible refine (slices_Clone_string_string.calls _ _ l0 c _ ?side1 ?side2 A2.out).mono ?_); (case side1 => exact cd HR0.out); (case side2 => exact HC0.out); rintro e w2 ⟨v14, rfl, ho, hb⟩; refine ⟨_, rfl, ?_⟩; have HO := ak (Kd.R_lower ho (below_size (belowd HB))); replace HB := ak (below_step (belowd HB) hb); clear ho hb) | ((with_reducible refine gate_dst (N := 17) rfl ?_); refine Kd.R_lit Kd.string _ 9 ?hg (N := 17) ?hd (xs := ([a1] : List ByteArray)) (inner := [.string a1]) (ok := fun _ => True) (okp := fun _ => True) ?hr ?hp (fun _ hk => hk) trivial (Below.refl _ _) (Nat.le_refl _) (by simp) ?_; (case hd => rfl); (case hg => rfl); (case hr => first | (go_simp; done) | (go_simp; rfl)); (case hp => exact (Reps.one (show Kd.M Kd.string _ _ _ (a1) [.string a1] from rfl) (Reps.none _ _))); intro v17 w3 ho3 hb3 hg_ hnew_; clear hg_ hnew_; have HU := ak (Kd.R_lower (Kd.R_mono (Kd.R_new' ho3 (Kd.R_lt (rdl HO))) (fun _ h_ => h_.2)) (below_size (belowd HB))); replace HO := ak (Kd.R_below (rdl HO) hb3); replace HB := ak (below_step (belowd HB) hb3); clear ho3 hb3) | ((with_reducible refine gate_callee (f := 134) rfl ?_); refine goesLa (some 18) rfl Tryz.func134 #[v14, .int .i64 (i : Int), v17] rfl ?_; (with_reducible refine (insS.calls (belowd HB) (rdl HO) (rdl HU) LI.out LC.out).mono ?_); rintro e w4 ⟨v18, rfl, ho, hb⟩; refine ⟨_, rfl, ?_⟩; clear HO HU; have HO := ak ho; replace HB := ak hb; clear ho hb))
 go_ret
 exact ⟨_, rfl, HO.out, HB.out⟩

/-! ### impl_Net_come: function 98 -/
def impl_Net_come.T1 : Bool × List (List Nat × List Nat) := (true, [([], []), ([0], [0]), ([1], [1]), ([2], [2]), ([], []), ([], []), ([5], [5]), ([6], [6]), ([7], [7]), ([], []), ([], []), ([10], [10]), ([11], [11]), ([12], [12]), ([], []), ([13, 14], [13, 14]), ([15], [15]), ([], []), ([16, 17], [16, 17]), ([], []), ([19], [19]), ([20], [20]), ([21], [21]), ([], []), ([22, 23], [22, 23]), ([24], [24]), ([], []), ([25, 26, 18], [25, 26]), ([3, 4, 0, 1, 2, 3, 4, 8, 10, 11, 12, 13, 14, 15, 16, 17, 18, 22, 25, 27], [3, 4]), ([28, 18, 27, 0, 1, 2, 3, 4, 8, 10, 11, 12, 13, 14, 15, 16, 17, 18, 22, 25, 27], [18, 28]), ([8, 9, 0, 1, 2, 3, 4, 5, 6, 7, 8, 9, 10, 11, 12, 13, 14, 15, 16, 17, 18, 19, 20, 21, 22, 23, 24, 25, 26, 27, 28, 29], [8, 9]), ([30, 27, 29, 0, 1, 2, 3, 4, 5, 6, 7, 8, 9, 10, 11, 12, 13, 14, 15, 16, 17, 18, 19, 20, 21, 22, 23, 24, 25, 26, 27, 28, 29], [27, 30])])
def impl_Net_come.B1 : List Nat := [0, 1, 3, 7, 0, 0, 32, 96, 224, 0, 0, 1024, 3072, 7168, 0, 31744, 64512, 0, 261120, 0, 524288, 1572864, 3670016, 0, 16252928, 33030144, 0, 134216704, 268434943, 536870399, 1073741823, 2147483647]
theorem impl_Net_come.tab1 : rtab .any (opsOf Tryz.f98 1) = impl_Net_come.T1 := by kernel_rfl
theorem impl_Net_come.bits1 : waitsOk impl_Net_come.T1.2 impl_Net_come.B1 = true := by kernel_rfl
def impl_Net_come.f (k : Nat) (n : Nt) (i : Int) (s : ByteArray) : Option Nt := if 0 ≤ i ∧ i < (n.ps.length : Int) ∧ i < (n.ss.length : Int) then (slices_Contains_string_string.f k (n.ss.getD i.toNat []) s).bind fun b => if b = true ∨ (n.ss.getD i.toNat []).length = 100 then some n else (impl_placed_string.f k (n.ss.getD i.toNat []) s).bind fun S => (impl_placed_string.f k (n.ps.getD i.toNat []) s).bind fun P => some ⟨n.ks, n.ps.set i.toNat P, n.ss.set i.toNat S, n.ib, n.sd⟩ else none
theorem impl_Net_come.keeps {k : Nat} {n m : Nt} {i : Int} {s : ByteArray} (h : impl_Net_come.f k n i s = some m) : m.ks = n.ks ∧ m.ib = n.ib ∧ m.sd = n.sd := by
 unfold impl_Net_come.f at h
 replace h := ifS h; obtain ⟨-, h⟩ := h
 replace h := bS h; obtain ⟨b, -, h⟩ := h
 split at h
 ·obtain rfl := Option.some.inj h; exact ⟨rfl, rfl, rfl⟩
 ·replace h := bS h; obtain ⟨_, -, h⟩ := h; replace h := bS h; obtain ⟨_, -, h⟩ := h; obtain rfl := Option.some.inj h; exact ⟨rfl, rfl, rfl⟩
set_option maxHeartbeats 16000000 in
set_option maxRecDepth 100000 in
theorem impl_Net_come.calls {k : Nat} {v0 v1 v2 v3 : Value} {n m : Nt} {i : Int} {s : ByteArray} {L : List SA} {w0 w : World} {b0 : Nat} (hs : Sep w0 w (bA b0 #[v0, v1, v2, v3, .int .i64 n.sd] 27 :: netA v0 v1 v2 v3 n ++ L)) (h : impl_Net_come.f k n i s = some m) :
    Calls Tryz.prog 98 #[.pointer (some ⟨b0, 0, none⟩), .int .i64 i, .string s] w fun e w' => e = .returned (.tuple #[]) ∧ Sep w0 w' (bA b0 #[v0, v1, v2, v3, .int .i64 n.sd] 27 :: netA v0 v1 v2 v3 m ++ L) := by
 have hu27 := Tryz.underlying27
 obtain ⟨ks, ps, ss, ib, sd⟩ := n
 have HS : Sep w0 w (bA b0 #[v0, v1, v2, v3, .int .i64 sd] 27 :: rA KI 3 v0 ks :: sA KT 62 v1 ps :: sA KT 62 v2 ss :: sA KT 62 v3 ib :: L) := hs
 clear hs
 unfold impl_Net_come.f at h
 dsimp only at h ⊢
 replace h := ifS h; obtain ⟨⟨i0, i1, i2⟩, h⟩ := h
 obtain ⟨A0, c0, rfl⟩ := HS.slR 1
 obtain ⟨A3, c3, rfl⟩ := HS.slS 4
 obtain ⟨g1, q1, rfl⟩ := HS.addr 2 (hx := by omega)
 obtain ⟨g2, q2, rfl⟩ := HS.addr 3 (hx := by omega)
 have p0 : (0 ≤ i) = True := eq_true i0
 have p1 : (i < (ps.length : Int)) = True := eq_true i1
 have p2 : (i < (ss.length : Int)) = True := eq_true i2
 obtain ⟨AP, qP, HS, -, -⟩ := HS.fr2.lend i i0 i1
 obtain ⟨AS, qS, HS, -, -⟩ := HS.fr4.lend i i0 i2
 generalize hS : ss.getD i.toNat [] = S at HS h
 generalize hP : ps.getD i.toNat [] = P at HS h
 have GS := ak hS; have GP := ak hP; clear hS hP
 replace h := bS h; obtain ⟨b, T1, h⟩ := h
 by_cases hb : b = true ∨ S.length = 100
 ·rw [if_pos hb] at h
  obtain rfl := Option.some.inj h
  clear h
  have hl : b = false → ((S.length : Int) == 100) = true := fun e => beq_iff_eq.2 (by rcases hb with h | h; (rw [e] at h; cases h); omega)
  clear hb
  cases b
  all_goals
   first | replace hl := hl rfl | clear hl
   go_enter Tryz.func98, Tryz.ntmps98
   obtain ⟨z00, z01, z02, z03, z04, f00, f01, f02, f03, f04⟩ := box5 (HS.blk 4)
   obtain ⟨hcgs, hfgs⟩ := HS.hole i0 i2
   go_wp2_with (first | (go_at_call 73; have HC_ := slices_Contains_string_string.calls k _ _ S s _ _ (HS.rdR 1).2.2 (HS.rdR 1).2.1 T1.out; refine HC_.mono ?_; clear HC_; rintro e W_ ⟨rfl, nd_, rfl⟩; replace HS := HS.drewN nd_; generalize World.drewN _ nd_ = W_ at HS ⊢; clear z00 z01 z02 z03 z04 f00 f01 f02 f03 f04 hcgs hfgs; obtain ⟨z00, z01, z02, z03, z04, f00, f01, f02, f03, f04⟩ := box5 (HS.blk 4); obtain ⟨hcgs, hfgs⟩ := HS.hole i0 i2))
   refine bodyPost_ret (results_none rfl _ _ _) rfl ?_
   replace HS := HS.back0 GS
   replace HS := HS.fr2.fr2.back0 GP
   exact ⟨rfl, HS.fr4.fr2.fr2.fr4.fr4⟩
 ·rw [if_neg hb] at h
  obtain ⟨hb1, hb2⟩ := not_or.1 hb
  obtain rfl : b = false := by simpa using hb1
  have hl : ((S.length : Int) == 100) = false := beq_eq_false_iff_ne.2 (fun e => hb2 (by omega))
  clear hb hb1 hb2
  replace h := bS h; obtain ⟨S', T2, h⟩ := h
  replace h := bS h; obtain ⟨P', T3, h⟩ := h
  obtain rfl := Option.some.inj h
  clear h
  go_enter Tryz.func98, Tryz.ntmps98
  obtain ⟨z00, z01, z02, z03, z04, f00, f01, f02, f03, f04⟩ := box5 (HS.blk 4)
  obtain ⟨hcgs, hfgs⟩ := HS.hole i0 i2
  go_upto_region 1 with (first | (go_at_call 73; have HC_ := slices_Contains_string_string.calls k _ _ S s _ _ (HS.rdR 1).2.2 (HS.rdR 1).2.1 T1.out; refine HC_.mono ?_; clear HC_; rintro e W_ ⟨rfl, nd_, rfl⟩; replace HS := HS.drewN nd_; generalize World.drewN _ nd_ = W_ at HS ⊢; clear z00 z01 z02 z03 z04 f00 f01 f02 f03 f04 hcgs hfgs; obtain ⟨z00, z01, z02, z03, z04, f00, f01, f02, f03, f04⟩ := box5 (HS.blk 4); obtain ⟨hcgs, hfgs⟩ := HS.hole i0 i2))
  clear z00 z01 z02 z03 z04 f00 f01 f02 f03 f04 hcgs hfgs
  obtain ⟨z00, z01, z02, z03, z04, f00, f01, f02, f03, f04⟩ := box5 (HS.blk 4)
  obtain ⟨hcgs, hfgs⟩ := HS.hole i0 i2
  obtain ⟨hcgp, hfgp⟩ := HS.fr2.hole i0 i1
  refine start_ (n := 32) (S := fun w' => w'.cell? ⟨b0, 0, none⟩ = some (.slice A0 ks.length c0) ∧ w'.cell? ⟨b0, 1, none⟩ = some (.slice (some ⟨g1, 0, none⟩) ps.length q1) ∧ w'.cell? ⟨b0, 2, none⟩ = some (.slice (some ⟨g2, 0, none⟩) ss.length q2) ∧ w'.cell? ⟨b0, 3, none⟩ = some (.slice A3 ib.length c3) ∧ w'.cell? ⟨b0, 4, none⟩ = some (.int .i64 sd) ∧ w'.cell? ⟨g2, i.toNat, none⟩ = some (.slice AS S.length qS) ∧ w'.cell? ⟨g1, i.toNat, none⟩ = some (.slice AP P.length qP)) (ds := [29, 31]) (bl 32 0) (by kernel_rfl) rfl rfl ⟨z00, z01, z02, z03, z04, hcgs, hcgp⟩ (fun hHeld => ?_); refine with_tabW impl_Net_come.tab1 impl_Net_come.bits1 (fun HT_ HW_ => ?_)
  clear z00 z01 z02 z03 z04 f00 f01 f02 f03 f04 hcgs hfgs hcgp hfgp
  replace HS := HS.drew
  generalize World.drew _ = W9_ at HS hHeld ⊢
  refine pureA 0 (some 26) 32 1 HT_ ?_
  refine pureA 1 (some 27) 32 3 HT_ ?_
  refine pureA 2 (some 28) 32 7 HT_ ?_
  refine takeA 3 (some 29) 32 15 HT_ HW_ hHeld ?_ (hy := by rintro w' ⟨s0, s1, s2, s3, s4, s5, s6⟩; go_simp; with_reducible rfl)
  refine pureA 4 (some 30) 32 31 HT_ ?_
  refine pureA 5 (some 31) 32 63 HT_ ?_
  refine pureA 6 (some 32) 32 127 HT_ ?_
  refine pureA 7 (some 33) 32 255 HT_ ?_
  refine takeA 8 (some 34) 32 511 HT_ HW_ hHeld ?_ (hy := by rintro w' ⟨s0, s1, s2, s3, s4, s5, s6⟩; go_simp; with_reducible rfl)
  refine pureA 9 (some 35) 32 1023 HT_ ?_
  refine pureA 10 (some 36) 32 2047 HT_ ?_
  refine pureA 11 (some 37) 32 4095 HT_ ?_
  refine pureA 12 (some 38) 32 8191 HT_ ?_
  refine takeA 13 (some 39) 32 16383 HT_ HW_ hHeld ?_ (hy := by rintro w' ⟨s0, s1, s2, s3, s4, s5, s6⟩; go_simp; with_reducible rfl)
  refine pureA 14 (some 40) 32 32767 HT_ ?_
  refine pureA 15 (some 41) 32 65535 HT_ ?_
  refine takeA 16 (some 42) 32 131071 HT_ HW_ hHeld ?_ (hy := by rintro w' ⟨s0, s1, s2, s3, s4, s5, s6⟩; go_simp; with_reducible rfl)
  refine pureA 17 (some 43) 32 262143 HT_ ?_
  refine pureA 19 (some 45) 32 786431 HT_ ?_
  refine pureA 20 (some 46) 32 1835007 HT_ ?_
  refine pureA 21 (some 47) 32 3932159 HT_ ?_
  refine takeA 22 (some 48) 32 8126463 HT_ HW_ hHeld ?_ (hy := by rintro w' ⟨s0, s1, s2, s3, s4, s5, s6⟩; go_simp; with_reducible rfl)
  refine pureA 23 (some 49) 32 16515071 HT_ ?_
  refine pureA 24 (some 50) 32 33292287 HT_ ?_
  refine takeA 25 (some 51) 32 66846719 HT_ HW_ hHeld ?_ (hy := by rintro w' ⟨s0, s1, s2, s3, s4, s5, s6⟩; go_simp; with_reducible rfl)
  refine pureA 26 (some 52) 32 133955583 HT_ ?_
  refine oneA 18 (some 44) 32 134217727 HT_ (fun K hK => ?_)
  refine goes_ Tryz.func119 (by kernel_rfl) rfl #[.slice AS S.length qS, .string s] (by rfl) rfl rfl (by (try simp only [List.map_toArray, List.map_cons, List.map_nil]); first | done | rfl) ?_
  have HC_ := impl_placed_string.calls k _ _ S s S' _ (HS.rdR 1).2.2 (HS.rdR 1).2.1 T2.out
  refine HC_.mono ?_
  clear HC_ hHeld
  rintro e W_ ⟨u_, rfl, ho_, hb_⟩
  refine ⟨_, rfl, ?_⟩
  replace HS := HS.new (A := rA Kd.string 9 u_ S') hb_ ho_
  obtain ⟨AS1, qS1, rfl⟩ := HS.slR 0
  clear ho_ hb_
  obtain ⟨z00, z01, z02, z03, z04, f00, f01, f02, f03, f04⟩ := box5 (HS.blk 5)
  obtain ⟨hcgs, hfgs⟩ := HS.fr1.hole i0 i2
  obtain ⟨hcgp, hfgp⟩ := HS.fr3.hole i0 i1
  refine hK.out _ _ ⟨z00, z01, z02, z03, z04, hcgs, hcgp⟩ (fun hHeld => ?_)
  clear hK K z00 z01 z02 z03 z04 f00 f01 f02 f03 f04 hcgs hfgs hcgp hfgp
  refine norm_ (a' := ?_) ?_ ?_
  rotate_left
  ·show Act.put _ (some 44) _ = _
   simp only [Act.put, List.setIfInBounds_toArray, List.set_cons_zero, List.set_cons_succ, i64_w, i32_w]
   rfl
  refine oneA 27 (some 53) 32 268435455 HT_ (fun K hK => ?_)
  refine goes_ Tryz.func119 (by kernel_rfl) rfl #[.slice AP P.length qP, .string s] (by rfl) rfl rfl (by (try simp only [List.map_toArray, List.map_cons, List.map_nil]); first | done | rfl) ?_
  have HC_ := impl_placed_string.calls k _ _ P s P' _ (HS.rdR 4).2.2 (HS.rdR 4).2.1 T3.out
  refine HC_.mono ?_
  clear HC_ hHeld
  rintro e W_ ⟨u_, rfl, ho_, hb_⟩
  refine ⟨_, rfl, ?_⟩
  replace HS := HS.new (A := rA Kd.string 9 u_ P') hb_ ho_
  obtain ⟨AP1, qP1, rfl⟩ := HS.slR 0
  clear ho_ hb_
  obtain ⟨z00, z01, z02, z03, z04, f00, f01, f02, f03, f04⟩ := box5 (HS.blk 6)
  obtain ⟨hcgs, hfgs⟩ := HS.fr2.hole i0 i2
  obtain ⟨hcgp, hfgp⟩ := HS.fr4.hole i0 i1
  refine hK.out _ _ ⟨z00, z01, z02, z03, z04, hcgs, hcgp⟩ (fun hHeld => ?_)
  clear hK K z00 z01 z02 z03 z04 f00 f01 f02 f03 f04 hcgs hfgs hcgp hfgp
  refine norm_ (a' := ?_) ?_ ?_
  rotate_left
  ·show Act.put _ (some 53) _ = _
   simp only [Act.put, List.setIfInBounds_toArray, List.set_cons_zero, List.set_cons_succ, i64_w, i32_w]
   rfl
  refine pureA 28 (some 54) 32 536870911 HT_ ?_
  refine last_ (i := 29) (N := none) (bl 32 1073741823) rfl rfl (one_of HT_.out (by kernel_rfl)) (by decide) (fun K hK => ?_)
  clear hHeld
  obtain ⟨hcgs, hfgs⟩ := HS.fr2.hole i0 i2
  refine skip_ (w1 := ?_) (by rfl) rfl ?_ ?_
  rotate_left
  ·go_simp
   rfl
  clear hcgs hfgs
  replace HS := HS.fr2.hput i0 i2 (.slice AS1 S'.length qS1) rfl
  refine hK.out _ _ ?_
  clear hK K
  obtain ⟨W5_, e5_, H5_⟩ := HS.gen
  rw [e5_]
  clear HS e5_
  have HS := H5_
  clear H5_
  refine pureA 30 (some 55) 32 2147483647 HT_ ?_
  refine last_ (i := 31) (N := none) (bl 32 4294967295) rfl rfl (one_of HT_.out (by kernel_rfl)) (by decide) (fun K hK => ?_)
  obtain ⟨hcgp, hfgp⟩ := HS.fr4.hole i0 i1
  refine skip_ (w1 := ?_) (by rfl) rfl ?_ ?_
  rotate_left
  ·go_simp
   rfl
  clear hcgp hfgp
  replace HS := HS.fr4.hput i0 i1 (.slice AP1 P'.length qP1) rfl
  refine hK.out _ _ ?_
  clear hK K
  refine done_ (done_of HT_.out (by kernel_rfl)) ?_
  clear HT_ HW_
  obtain ⟨W5_, e5_, H5_⟩ := HS.gen
  rw [e5_]
  clear HS e5_
  have HS := H5_
  clear H5_
  replace HS := HS.fr2.fr1.back
  replace HS := HS.fr2.fr2.back
  go_wp2
  refine bodyPost_end (results_none rfl _ _ _) rfl ?_
  replace HS := HS.fr2.tail
  replace HS := HS.fr2.tail
  exact ⟨rfl, HS.fr4.fr1.fr2.fr4.fr4⟩

/-! ### impl_isKey: function 122 -/
def impl_isKey.f (a0 : Int) : Option (Bool) := (impl_within.f a0 0 65535).bind fun t320 => (some t320)
set_option maxHeartbeats 8000000 in
set_option maxRecDepth 100000 in
theorem impl_isKey.calls (a0 : Int) (r : Bool) (w : World) (h : impl_isKey.f a0 = some r) :
  Calls Tryz.prog 122 #[.int .i64 a0] w fun e w' => e = .returned (.bool r) ∧ Drawn0 w w' := by
 have H : ((impl_within.f a0 0 65535).bind fun t320 => (some t320)) = some r := h
 clear h; replace H := bS H; obtain ⟨t320, A2, H⟩ := H
 replace H : (some t320) = some r := H
 obtain rfl := Option.some.inj H
 go_enter Tryz.func122, Tryz.ntmps122
 go_wp2_with (first | ((with_reducible refine gate_callee (f := 70) rfl ?_); refine goesLa (some 4) rfl Tryz.func70 #[.int .i64 a0, .int .i64 0, .int .i64 65535] rfl ?_; (with_reducible refine (impl_within.calls a0 0 65535 t320 _ A2.out).mono ?_); rintro e w' ⟨rfl, ⟨nd, rfl⟩⟩; refine ⟨_, rfl, ?_⟩))
 go_ret
 exact ⟨er, drw⟩

/-! ### impl_xor: function 123 -/
def impl_xor.f (k : Nat) (a0 a1 : ByteArray) : Option ByteArray := if a0.size ≤ a1.size then (if a0.size ≤ 1048576 then some (xorT a0 a1) else none) else none
theorem impl_xor.mono : ∀ a0 a1 k, LeO (impl_xor.f k a0 a1) (impl_xor.f (k + 1) a0 a1) := fun _ _ _ => LeO.refl _
set_option maxHeartbeats 8000000 in
set_option maxRecDepth 100000 in
theorem impl_xor.calls (k : Nat) (a0 a1 : ByteArray) (r : ByteArray) (w : World) (h : impl_xor.f k a0 a1 = some r) :
 Calls Tryz.prog 123 #[.string a0, .string a1] w fun e w' => e = .returned (.string r) ∧ Below w.heap.size w w' := by
 unfold impl_xor.f at h
 replace h := ifS h; obtain ⟨hl, h⟩ := h
 replace h := ifS h; obtain ⟨hm, h⟩ := h
 obtain rfl := Option.some.inj h
 clear h
 have HL := ak hl; have HM := ak hm; clear hl hm
 have HCV := ak (fun W => print_bytes (P := Tryz.prog) 9 56 5 Tryz.underlying9 Tryz.underlying56 Tryz.underlying5 a0 W)
 go_enter Tryz.func123, Tryz.ntmps123
 have HX0 := ak (XorAt.start a0 a1 w 5)
 have HB0 := ak (bytes_below (Below.refl w.heap.size w) (Nat.le_refl _) 5 a0)
 have HCW := HCV.out w
 clear HCV
 generalize hg : w.heap.size = g at HX0 HB0 HCW
 generalize hW : Lib.bytesWorld w 5 a0 = W1 at HX0 HB0 HCW
 generalize hcap : grownCap w a0.size 0 5 = cp at HCW
 clear hW hcap
 go_wp2_with (simp only [HCW, Result.andThen])
 clear HCW
 go_loopg [11] a0.size (fun kq v11 w' => ∃ (i : Int), v11 = .int .i64 i ∧ 0 ≤ i ∧ i ≤ a0.size ∧ (a0.size - i.toNat : Nat) ≤ kq ∧ Aside0 (XorAt a0 a1 g i w') ∧ Aside0 (Below g w w'))
 case atStart => exact ⟨0, rfl, Int.le_refl _, by omega, by omega, HX0, HB0⟩
 case round =>
 clear HX0 HB0
 obtain ⟨i, rfl, hi0, hi1, hk, HX, HB⟩ := hrel
 by_cases hlt : i < (a0.size : Int)
 ·have c1 : decide (i < (a0.size : Int)) = true := decide_eq_true hlt
  have p4 : 0 ≤ i := hi0
  have q4 : i < (a1.size : Int) := by have := HL.out; omega
  have hx4 := bt_at a1 i
  obtain ⟨hz, hf⟩ := HX.out.cell hi0 hlt
  have HX2 := ak ((show XorAt a0 a1 g i wr.drew from HX.out).put hi0 hlt HM.out)
  have HB2 := ak (Below.setCell (below_drew HB.out) (show g ≤ (Addr.mk g i.toNat none).block from Nat.le_refl _) (.int .u8 (Go.bits .xor .u8 (bt a0 i) (bt a1 i))))
  replace p4 := eq_true p4; replace q4 := eq_true q4; go_wp2
  go_region
  go_wp2
  go_roundg (a0.size - (i + 1).toNat)
  case measure => have := HM.out; omega
  case rel => exact ⟨wrap64 (i + 1), er, by rw [IntWalk.wrap64_in _ (by have := HM.out; omega)]; omega, by rw [IntWalk.wrap64_in _ (by have := HM.out; omega)]; omega, by rw [IntWalk.wrap64_in _ (by have := HM.out; omega)]; exact Nat.le_refl _, HX2, HB2⟩
 ·have c1 : decide (i < (a0.size : Int)) = false := decide_eq_false hlt
  have hcs := string_of_reads (P := Tryz.prog) (c := cp) Tryz.underlying56 Tryz.underlying5 Tryz.underlying9 (HX.out.done hlt (by have := HM.out; omega))
  go_wp2
  go_ret
  subst hg
  exact ⟨er, HB.out⟩

/-! ### strings_Repeat: function 132 -/
def strings_Repeat.f (k : Nat) (a0 : ByteArray) (a1 : Int) : Option ByteArray := if 0 ≤ a1 then (if a0.size * a1.toNat ≤ 140737488355328 then (if a1 ≤ 9223372036854775807 then some ⟨(Lib.repeatL a0.data.toList a1.toNat).toArray⟩ else none) else none) else none
theorem strings_Repeat.mono : ∀ a0 a1 k, LeO (strings_Repeat.f k a0 a1) (strings_Repeat.f (k + 1) a0 a1) := fun _ _ _ => LeO.refl _
theorem strings_Repeat.calls (k : Nat) (a0 : ByteArray) (a1 : Int) (r : ByteArray) (w : World) (h : strings_Repeat.f k a0 a1 = some r) :
  Calls Tryz.prog 132 #[.string a0, .int .i64 a1] w fun e w' => e = .returned (.string r) ∧ Below w.heap.size w w' := by
 unfold strings_Repeat.f at h
 replace h := ifS h; obtain ⟨h0, h⟩ := h
 replace h := ifS h; obtain ⟨h1, h⟩ := h
 replace h := ifS h; obtain ⟨h2, h⟩ := h
 obtain rfl := Option.some.inj h
 obtain ⟨c, rfl⟩ := Int.eq_ofNat_of_zero_le h0
 exact Any.strings_Repeat strR strRx a0 c w (by omega) (by simpa using h1)

/-! ### impl_round: function 168 -/
def impl_round.f (a0 : Int) (a1 : Int) : Option (Int) := some (Int.tmod (Int.tmod (wrap64 ((wrap64 ((wrap64 ((Int.tmod (wrap64 (a1 + (Int.tmod a0 256))) 256) * (Int.tmod (wrap64 (a1 + (Int.tmod a0 256))) 256))) + (wrap64 ((Int.tmod (wrap64 (a1 + (Int.tmod a0 256))) 256) * (wrap64 (Int.tdiv a0 256)))))) + 29)) 65521) 256)
set_option maxHeartbeats 8000000 in
set_option maxRecDepth 100000 in
theorem impl_round.calls (a0 : Int) (a1 : Int) (r : Int) (w : World) (h : impl_round.f a0 a1 = some r) :
  Calls Tryz.prog 168 #[.int .i64 a0, .int .i64 a1] w fun e w' => e = .returned (.int .i64 r) ∧ Drawn0 w w' := by
 have H : (some (Int.tmod (Int.tmod (wrap64 ((wrap64 ((wrap64 ((Int.tmod (wrap64 (a1 + (Int.tmod a0 256))) 256) * (Int.tmod (wrap64 (a1 + (Int.tmod a0 256))) 256))) + (wrap64 ((Int.tmod (wrap64 (a1 + (Int.tmod a0 256))) 256) * (wrap64 (Int.tdiv a0 256)))))) + 29)) 65521) 256)) = some r := h
 clear h
 obtain rfl := Option.some.inj H
 go_enter Tryz.func168, Tryz.ntmps168
 go_wp2
 go_ret
 exact ⟨er, drw⟩

/-! ### impl_mix: function 156 -/
def impl_mix.l0 : Nat → Int → Int → List Int → Int → Int → Option (Int)
  | 0, _, _, _, _, _ => none
  | k + 1, x5, x6, x13, x14, x15 => if x15 < x14 then (if 0 ≤ x15 then (if x15 < (x13.length : Int) then ((impl_round.f (rd x13 x15) x6).bind fun t322 => (impl_mix.l0 k x6 (Go.bits .xor .i64 x5 t322) x13 x14 (wrap64 (x15 + 1)))) else (none)) else (none)) else (some (wrap64 ((wrap64 (x5 * 256)) + x6)))
def impl_mix.f (k : Nat) (l0 : List Int) (a1 : Int) : Option (Int) := impl_mix.l0 k (wrap64 (Int.tdiv a1 256)) (Int.tmod a1 256) l0 (l0.length : Int) 0
theorem impl_mix.mono_l : ∀ k, (∀ y0 y1 y2 y3 y4, LeO (impl_mix.l0 k y0 y1 y2 y3 y4) (impl_mix.l0 (k + 1) y0 y1 y2 y3 y4))
 | 0 => fun _ _ _ _ _ r h => by simp [impl_mix.l0] at h
 | k + 1 => by
  have ih0 := impl_mix.mono_l k
  ·intro y0 y1 y2 y3 y4
   unfold impl_mix.l0
   repeat' (first | (with_reducible first | exact ih0 _ _ _ _ _ | exact LeO.refl _ | exact LeO.none _ | refine LeO.ite ?_ ?_ | refine LeO.bind ?_ (fun _ => ?_)) | exact ih0 _ _ _ _ _ | exact LeO.none _ | refine LeO.ite ?_ ?_ | refine LeO.bind ?_ (fun _ => ?_))
theorem impl_mix.mono : ∀ a0 a1 k, LeO (impl_mix.f k a0 a1) (impl_mix.f (k + 1) a0 a1) := by
 intro a0 a1 k
 have ih0 := impl_mix.mono_l k
 unfold impl_mix.f
 repeat' (first | (with_reducible first | exact ih0 _ _ _ _ _ | exact LeO.refl _ | exact LeO.none _ | refine LeO.ite ?_ ?_ | refine LeO.bind ?_ (fun _ => ?_)) | exact ih0 _ _ _ _ _ | exact LeO.none _ | refine LeO.ite ?_ ?_ | refine LeO.bind ?_ (fun _ => ?_))
set_option maxHeartbeats 8000000 in
set_option maxRecDepth 100000 in
theorem impl_mix.calls (k : Nat) (A0 : Option Addr) (c0 : Nat) (l0 : List Int) (a1 : Int) (r : Int) (w : World) (hr0 : Kd.C (Kd.int .i64) w A0 l0.length l0) (hc0 : l0.length ≤ c0) (h : impl_mix.f k l0 a1 = some r) :
  Calls Tryz.prog 156 #[.slice A0 l0.length c0, .int .i64 a1] w fun e w' => e = .returned (.int .i64 r) ∧ Drawn0 w w' := by
 have HR0 := Aside0.mk hr0; have HC0 := Aside0.mk hc0; clear hr0 hc0
 have H : (impl_mix.l0 k (wrap64 (Int.tdiv a1 256)) (Int.tmod a1 256) l0 (l0.length : Int) 0) = some r := h
 clear h
 have H' := Aside0.mk H
 clear H
 go_enter Tryz.func156, Tryz.ntmps156
 go_wp2
 go_loopg [5, 6, 15] k (fun kq v5 v6 v15 w' => ∃ (x5_1 : Int) (x6_1 : Int) (x15_1 : Int), v5 = .int .i64 x5_1 ∧ v6 = .int .i64 x6_1 ∧ v15 = .int .i64 x15_1 ∧ Aside0 (impl_mix.l0 kq x5_1 x6_1 l0 (l0.length : Int) x15_1 = some r) ∧ Aside0 (kq ≤ k) ∧ Drawn0 w w')
 case atStart => exact ⟨(wrap64 (Int.tdiv a1 256)), (Int.tmod a1 256), (0), er, er, er, H', ⟨Nat.le_refl _⟩, drw⟩
 case round =>
  clear H'
  obtain ⟨x5_1, x6_1, x15_1, rfl, rfl, rfl, HA, HK1, ⟨m1, rfl⟩⟩ := hrel
  cases gk with
  | zero => exact absurd HA.out (by simp [impl_mix.l0])
  | succ k1 =>
   have H := HA.out; clear HA
   simp only [impl_mix.l0] at H
   by_cases c3 : x15_1 < (l0.length : Int)
   ·rw [if_pos c3] at H
    have c3b0 : decide (x15_1 < (l0.length : Int)) = true := decide_eq_true c3
    clear c3; replace H := ifS H; obtain ⟨c4, H⟩ := H; have c4b0 := decide_eq_true c4; clear c4; replace H := ifS H; obtain ⟨c5, H⟩ := H; have c5b0 := decide_eq_true c5; clear c5; replace H := bS H; obtain ⟨t322, A6, H⟩ := H
    replace H : (impl_mix.l0 k1 x6_1 (Go.bits .xor .i64 x5_1 t322) l0 (l0.length : Int) (wrap64 (x15_1 + 1))) = some r := H
    have H' := Aside0.mk H
    clear H
    have p321 : 0 ≤ (x15_1 : Int) := da
    have q321 : x15_1 < (l0.length : Int) := da
    obtain ⟨ad321, e321, hx321_0⟩ := Kd.at_int HR0.out x15_1 p321 q321
    cases e321
    replace p321 := eq_true p321; replace q321 := eq_true q321
    go_wp2_with (first | ((with_reducible refine gate_callee (f := 168) rfl ?_); refine goesLa (some 23) rfl Tryz.func168 #[.int .i64 (rd l0 x15_1), .int .i64 x6_1] rfl ?_; (with_reducible refine (impl_round.calls (rd l0 x15_1) x6_1 t322 _ A6.out).mono ?_); rintro e w' ⟨rfl, ⟨nd, rfl⟩⟩; refine ⟨_, rfl, ?_⟩))
    go_roundg k1
    case measure => have := HK1.out; omega
    case rel => exact ⟨(x6_1), (Go.bits .xor .i64 x5_1 t322), (wrap64 (x15_1 + 1)), er, er, er, H', ⟨by have := HK1.out; omega⟩, drw⟩
   ·rw [if_neg c3] at H
    have c3b0 : decide (x15_1 < (l0.length : Int)) = false := decide_eq_false c3
    clear c3
    obtain rfl := Option.some.inj H
    go_wp2
    go_ret
    exact ⟨er, drw⟩

end Go.Proofs.YtihekdlcfohkkaaGreatDoor.QFnExactStepNet
