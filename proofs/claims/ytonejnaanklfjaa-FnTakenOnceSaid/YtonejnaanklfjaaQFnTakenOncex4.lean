-- printed by this session's own program (wip/tools/pp.py: the kit's print.py with changes); Lean checks it
import Derived.Test.YtonejnaanklfjaaQFnTakenOncex0
import Derived.Test.YtonejnaanklfjaaQFnTakenOncex2
import Derived.Test.YtonejnaanklfjaaQFnTakenOncex3
namespace Go.Proofs.Ytonejnaanklfjaa.QFnTakenOnce
open Go.RowKit Go.Proofs.YtonejnaanklfjaaW.PrintWords Go.Proofs.YtonejnaanklfjaaW.PrintLast Go.Proofs.YtonejnaanklfjaaW.PrintMore
attribute [local go_sem] max2_int min2_int max_two min_two max_three min_three max_four min_four strLss strGtr strLeq strGeq   -- for this text's walks alone
set_option linter.unusedVariables false
set_option linter.unusedSimpArgs false

/-! ### spec_PlayNumbers: function 84 -/
def spec_PlayNumbers.l0 : Nat → List Int → List Int → Int → Int → Int → Int → Option (List Int × Int × Int × Bool)
  | 0, _, _, _, _, _, _ => none
  | k + 1, x6, x15, x16, x17, x206000, x206001 => if x17 < x16 then (if 0 ≤ x17 then (if x17 < (x15.length : Int) then ((spec_l16Take.f k x206000 x206001 (rd x15 x17)).bind fun bt207 => (if x6.length < 17592186044416 then (spec_PlayNumbers.l0 k (x6 ++ [bt207.2.2]) x15 x16 (wrap64 (x17 + 1)) bt207.1 bt207.2.1) else (none))) else (none)) else (none)) else (some (x6, x206000, x206001, true))
def spec_PlayNumbers.f (k : Nat) (l0 : List Int) : Option (List Int × Int × Int × Bool) := (spec_l16Numbers.f k l0).bind fun t204 => (if t204 = true then (spec_PlayNumbers.l0 k ([] : List Int) l0 (l0.length : Int) 0 0 0) else (some (([] : List Int), 0, 0, false)))
theorem spec_PlayNumbers.mono_l : ∀ k, (∀ y0 y1 y2 y3 y4 y5, LeO (spec_PlayNumbers.l0 k y0 y1 y2 y3 y4 y5) (spec_PlayNumbers.l0 (k + 1) y0 y1 y2 y3 y4 y5))
 | 0 => fun _ _ _ _ _ _ r h => by simp [spec_PlayNumbers.l0] at h
 | k + 1 => by
  have ih0 := spec_PlayNumbers.mono_l k
  ·intro y0 y1 y2 y3 y4 y5
   unfold spec_PlayNumbers.l0
   repeat' (first | (with_reducible first | exact ih0 _ _ _ _ _ _ | exact spec_l16Numbers.mono _ _ | exact spec_l16Take.mono _ _ _ _ | exact LeO.refl _ | exact LeO.none _ | refine LeO.ite ?_ ?_ | refine LeO.bind ?_ (fun _ => ?_)) | exact ih0 _ _ _ _ _ _ | exact spec_l16Numbers.mono _ _ | exact spec_l16Take.mono _ _ _ _ | exact LeO.none _ | refine LeO.ite ?_ ?_ | refine LeO.bind ?_ (fun _ => ?_))
theorem spec_PlayNumbers.mono : ∀ a0 k, LeO (spec_PlayNumbers.f k a0) (spec_PlayNumbers.f (k + 1) a0) := by
 intro a0 k
 have ih0 := spec_PlayNumbers.mono_l k
 unfold spec_PlayNumbers.f
 repeat' (first | (with_reducible first | exact ih0 _ _ _ _ _ _ | exact spec_l16Numbers.mono _ _ | exact spec_l16Take.mono _ _ _ _ | exact LeO.refl _ | exact LeO.none _ | refine LeO.ite ?_ ?_ | refine LeO.bind ?_ (fun _ => ?_)) | exact ih0 _ _ _ _ _ _ | exact spec_l16Numbers.mono _ _ | exact spec_l16Take.mono _ _ _ _ | exact LeO.none _ | refine LeO.ite ?_ ?_ | refine LeO.bind ?_ (fun _ => ?_))
set_option maxHeartbeats 8000000 in
set_option maxRecDepth 100000 in
theorem spec_PlayNumbers.calls (k : Nat) (A0 : Option Addr) (c0 : Nat) (l0 : List Int) (r1 : List Int) (r2 : Int) (r3 : Int) (r4 : Bool) (w : World) (hr0 : Kd.C (Kd.int .i64) w A0 l0.length l0) (hc0 : l0.length ≤ c0) (h : spec_PlayNumbers.f k l0 = some (r1, r2, r3, r4)) :
  Calls Try.prog 84 #[.slice A0 l0.length c0] w fun e w' => ∃ v0_ : Value, e = .returned (.tuple #[v0_, .agg #[.int .i64 r2, .int .i64 r3], .bool r4]) ∧ Kd.R (Kd.int .i64) 3 w' w.heap.size (fun _ => True) v0_ r1 ∧ Below w.heap.size w w' := by
 have hu80 := Try.underlying80
 have HR0 := Aside0.mk hr0; have HC0 := Aside0.mk hc0; clear hr0 hc0
 have HB := Aside0.mk (Below.refl w.heap.size w)
 have H : ((spec_l16Numbers.f k l0).bind fun t204 => (if t204 = true then (spec_PlayNumbers.l0 k ([] : List Int) l0 (l0.length : Int) 0 0 0) else (some (([] : List Int), 0, 0, false)))) = some (r1, r2, r3, r4) := h
 clear h; replace H := bS H; obtain ⟨t204, A2, H⟩ := H
 replace H : (if t204 = true then (spec_PlayNumbers.l0 k ([] : List Int) l0 (l0.length : Int) 0 0 0) else (some (([] : List Int), 0, 0, false))) = some (r1, r2, r3, r4) := H
 by_cases c3 : t204 = true
 ·subst c3
  have H1 : (spec_PlayNumbers.l0 k ([] : List Int) l0 (l0.length : Int) 0 0 0) = some (r1, r2, r3, r4) := by rw [if_pos rfl] at H; exact H
  clear H
  have H := H1
  clear H1
  have H' := Aside0.mk H
  clear H
  go_enter Try.func84, Try.ntmps84
  go_wp2_with (first | ((with_reducible refine gate_dst (N := 3) rfl ?_); refine boxev 3 #[.int .i64 0, .int .i64 0] 80 ?_; intro gb203 hg w4 hbox hb; have BK203 := ak (hbox); have GW203 := ak (hgl hg (belowd HB)); have GE203 := ak (hgl hg (belowd HB)); replace HB := ak (below_step (belowd HB) hb); clear hb hbox hg) | ((with_reducible refine gate_callee (f := 145) rfl ?_); refine goesLa (some 12) rfl Try.func145 #[.slice A0 l0.length c0] rfl ?_; (with_reducible refine (spec_l16Numbers.calls k _ _ l0 true _ ?side1 ?side2 A2.out).mono ?_); (case side1 => exact cd (Kd.C_below HR0.out HB.out)); (case side2 => exact HC0.out); rintro e w' ⟨rfl, ⟨nd, rfl⟩⟩; refine ⟨_, rfl, ?_⟩) | ((with_reducible refine gate_dst (N := 5) rfl ?_); refine boxev 5 #[.int .i64 0, .int .i64 0] 80 ?_; intro gb205 hg w5 hbox hb; have BK205 := ak (hbox); have GW205 := ak (hgl hg (belowg1 HB GE203)); have GE205 := ak (hgl hg (belowg1 HB GE203)); replace HB := ak (below_step (belowg1 HB GE203) hb); have NB203_205 := ak ((by rw [hg]; exact Nat.ne_of_lt (blk_lt (blkd BK203)) : gb203 ≠ gb205)); have NB205_203 := ak ((by rw [hg]; exact Nat.ne_of_gt (blk_lt (blkd BK203)) : gb205 ≠ gb203)); replace BK203 := ak (blk_below (blkd BK203) hb); clear hb hbox hg))
  go_loopg [6, 17] k (fun kq v6 v17 w' => ∃ (x6_1 : List Int) (x17_1 : Int) (x206000_1 : Int) (x206001_1 : Int), v17 = .int .i64 x17_1 ∧ Aside0 (spec_PlayNumbers.l0 kq x6_1 l0 (l0.length : Int) x17_1 x206000_1 x206001_1 = some (r1, r2, r3, r4)) ∧ Aside0 (kq ≤ k) ∧ Aside0 (Kd.R (Kd.int .i64) 3 w' w.heap.size (fun _ => True) v6 x6_1) ∧ Aside0 (w'.heap[gb203]? = some (.cells #[.int .i64 0, .int .i64 0] 80 (0, 0))) ∧ Aside0 (w'.heap[gb205]? = some (.cells #[.int .i64 x206000_1, .int .i64 x206001_1] 80 (0, 0))) ∧ Aside0 (Below w.heap.size w w'))
  case atStart => exact ⟨(([] : List Int)), (0), (0), (0), er, H', ⟨Nat.le_refl _⟩, ⟨by first | exact Kd.R_nil _ _ _ _ _ | exact Kd.N_nil _ _ _ _ _ | exact Kd.V_nil _ _ _ _ _ | exact Kd.Q_nil _ _ _ _ _ | exact Kd.S_nil _ _ _ _ _⟩, ⟨blkd BK203⟩, ⟨blkd BK205⟩, ⟨belowg2 HB GE203 GE205⟩⟩
  case round =>
   clear H'
   (try clear c3)
   obtain ⟨x6_1, x17_1, x206000_1, x206001_1, rfl, HA, HK1, HO_6, BK203, BK205, HB⟩ := hrel
   cases gk with
   | zero => exact absurd HA.out (by simp [spec_PlayNumbers.l0])
   | succ k1 =>
    have H := HA.out; clear HA
    simp only [spec_PlayNumbers.l0] at H
    by_cases c6 : x17_1 < (l0.length : Int)
    ·rw [if_pos c6] at H
     have c6b0 : decide (x17_1 < (l0.length : Int)) = true := decide_eq_true c6
     clear c6; replace H := ifS H; obtain ⟨c7, H⟩ := H; have c7b0 := decide_eq_true c7; clear c7; replace H := ifS H; obtain ⟨c8, H⟩ := H; have c8b0 := decide_eq_true c8; clear c8; replace H := bS H; obtain ⟨⟨t207, t208, t209⟩, A9, H⟩ := H
     replace H : (if x6_1.length < 17592186044416 then (spec_PlayNumbers.l0 k1 (x6_1 ++ [t209]) l0 (l0.length : Int) (wrap64 (x17_1 + 1)) t207 t208) else (none)) = some (r1, r2, r3, r4) := H
     replace H := ifS H; obtain ⟨c10, H⟩ := H; have LMc10 := Aside0.mk c10; clear c10
     obtain ⟨y211, hy_⟩ : ∃ y_ : List Int, y_ = (x6_1 ++ [t209]) := ⟨_, rfl⟩
     replace H : (spec_PlayNumbers.l0 k1 y211 l0 (l0.length : Int) (wrap64 (x17_1 + 1)) t207 t208) = some (r1, r2, r3, r4) := yH
     have Ny211 := ak hy_; clear hy_
     have H' := Aside0.mk H
     clear H
     have p206 : 0 ≤ (x17_1 : Int) := da
     have q206 : x17_1 < (l0.length : Int) := da
     obtain ⟨ad206, e206, hx206_0⟩ := Kd.at_int HR0.out x17_1 p206 q206
     cases e206
     replace hx206_0 := (HB.out.cell (World.block_lt_of_cell? w _ hx206_0)).trans hx206_0
     replace p206 := eq_true p206; replace q206 := eq_true q206; have hnb11 := NB205_203.out; have hnc11 := NB203_205.out; obtain ⟨hcz12_0, hcz12_1, hfz12_0, hfz12_1⟩ := box2 BK205
     go_wp2_with (first | ((with_reducible refine gate_callee (f := 146) rfl ?_); refine goesLa (some 24) rfl Try.func146 #[.agg #[.int .i64 x206000_1, .int .i64 x206001_1], .int .i64 (rd l0 x17_1)] rfl ?_; (with_reducible refine (spec_l16Take.calls k1 x206000_1 x206001_1 (rd l0 x17_1) t207 t208 t209 _ A9.out).mono ?_); rintro e w13 ⟨rfl, hb⟩; refine ⟨_, rfl, ?_⟩; replace HO_6 := ak (Kd.R_below (rdl HO_6) hb); replace BK203 := ak (blk_below (blkd BK203) hb); replace BK205 := ak (blk_below (blkd BK205) hb); replace HB := ak (below_step (belowg2 HB GE203 GE205) hb); (try clear hb)) | ((with_reducible refine gate_dst (N := 9) rfl ?_); refine boxev 9 #[.int .i64 0, .int .i64 0] 80 ?_; intro gb210 hg w14 hbox hb; replace HO_6 := ak (Kd.R_below (rdl HO_6) hb); have BK210 := ak (hbox); have GW210 := ak (hgl hg (belowg2 HB GE203 GE205)); have GE210 := ak (hgl hg (belowg2 HB GE203 GE205)); replace HB := ak (below_step (belowg2 HB GE203 GE205) hb); have NB203_210 := ak ((by rw [hg]; exact Nat.ne_of_lt (blk_lt (blkd BK203)) : gb203 ≠ gb210)); have NB210_203 := ak ((by rw [hg]; exact Nat.ne_of_gt (blk_lt (blkd BK203)) : gb210 ≠ gb203)); replace BK203 := ak (blk_below (blkd BK203) hb); have NB205_210 := ak ((by rw [hg]; exact Nat.ne_of_lt (blk_lt (blkd BK205)) : gb205 ≠ gb210)); have NB210_205 := ak ((by rw [hg]; exact Nat.ne_of_gt (blk_lt (blkd BK205)) : gb210 ≠ gb205)); replace BK205 := ak (blk_below (blkd BK205) hb); clear hb hbox hg; have hnb15 := NB210_203.out; have hnc15 := NB203_210.out; have hnb16 := NB210_205.out; have hnc16 := NB205_210.out; obtain ⟨hcz17_0, hcz17_1, hfz17_0, hfz17_1⟩ := box2 BK210; obtain ⟨hcz18_0, hcz18_1, hfz18_0, hfz18_1⟩ := box2 BK205) | ((with_reducible refine gate_builtin (b := .append) (xs := #[.tmp 28, .tmp 30]) rfl ?_); at_builtin; refine Kd.R_append (Kd.int .i64) (w0 := w) w.heap.size rfl (.tmp 28) (.tmp 30) 51 3 (.int .i64 0) 8 rfl Try.underlying51 info3 rfl (by decide) (by omega) u6 x6_1 t209 [.int .i64 t209] (fun _ => True) (fun _ => False) rfl (by first | (go_simp; done) | (go_simp; rfl)) ?aP (fun _ hk => hk.elim) ?aF ?aO ?aB ?aS ?aL ?_; (case aP => exact rfl); (case aB => exact (belowg3 HB GE203 GE205 GE210)); (case aF => exact (fun _ _ => trivial)); (case aO => exact (by (with_reducible repeat (first | apply Kd.R_alloc | apply Kd.R_drewN | apply Kd.R_drew)); exact Kd.R_mono (farsR (Kd.R_types (Kd.R_types HO_6.out BK210.out (by decide)) BK205.out (by decide))) (fun _ hk => trivial))); (case aS => exact (below_size (belowg3 HB GE203 GE205 GE210))); (case aL => have := LMc10.out; omega); intro v212 w19 ho hb hg hat; rw [← Ny211.out] at ho; replace BK203 := ak (blk_grown (g := gb203) (o := .cells #[.int .i64 0, .int .i64 0] 80 (0, 0)) (by (with_reducible repeat (first | refine blk_drewN ?_ _ | refine blk_drew ?_ | refine blk_alloc ?_ _)); refine blk_far ?_ NB203_205.out _; (with_reducible repeat (first | refine blk_drewN ?_ _ | refine blk_drew ?_ | refine blk_alloc ?_ _)); refine blk_far ?_ NB203_205.out _; (with_reducible repeat (first | refine blk_drewN ?_ _ | refine blk_drew ?_ | refine blk_alloc ?_ _)); refine blk_far ?_ NB203_210.out _; (with_reducible repeat (first | refine blk_drewN ?_ _ | refine blk_drew ?_ | refine blk_alloc ?_ _)); refine blk_far ?_ NB203_210.out _; (with_reducible repeat (first | refine blk_drewN ?_ _ | refine blk_drew ?_ | refine blk_alloc ?_ _)); exact BK203.out) hg (Kd.R_ne HO_6.out BK203.out (by decide))); replace BK205 := ak (blk_grown (g := gb205) (o := .cells #[.int .i64 t207, .int .i64 t208] 80 (0, 0)) (by (with_reducible repeat (first | refine blk_drewN ?_ _ | refine blk_drew ?_ | refine blk_alloc ?_ _)); refine blk_put (cs := #[.int .i64 t207, .int .i64 x206001_1]) ?_ 1 _ rfl; (with_reducible repeat (first | refine blk_drewN ?_ _ | refine blk_drew ?_ | refine blk_alloc ?_ _)); refine blk_put (cs := #[.int .i64 x206000_1, .int .i64 x206001_1]) ?_ 0 _ rfl; (with_reducible repeat (first | refine blk_drewN ?_ _ | refine blk_drew ?_ | refine blk_alloc ?_ _)); refine blk_far ?_ NB205_210.out _; (with_reducible repeat (first | refine blk_drewN ?_ _ | refine blk_drew ?_ | refine blk_alloc ?_ _)); refine blk_far ?_ NB205_210.out _; (with_reducible repeat (first | refine blk_drewN ?_ _ | refine blk_drew ?_ | refine blk_alloc ?_ _)); exact BK205.out) hg (Kd.R_ne HO_6.out BK205.out (by decide))); replace BK210 := ak (blk_grown (g := gb210) (o := .cells #[.int .i64 t207, .int .i64 t208] 80 (0, 0)) (by (with_reducible repeat (first | refine blk_drewN ?_ _ | refine blk_drew ?_ | refine blk_alloc ?_ _)); refine blk_far ?_ NB210_205.out _; (with_reducible repeat (first | refine blk_drewN ?_ _ | refine blk_drew ?_ | refine blk_alloc ?_ _)); refine blk_far ?_ NB210_205.out _; (with_reducible repeat (first | refine blk_drewN ?_ _ | refine blk_drew ?_ | refine blk_alloc ?_ _)); refine blk_put (cs := #[.int .i64 t207, .int .i64 0]) ?_ 1 _ rfl; (with_reducible repeat (first | refine blk_drewN ?_ _ | refine blk_drew ?_ | refine blk_alloc ?_ _)); refine blk_put (cs := #[.int .i64 0, .int .i64 0]) ?_ 0 _ rfl; (with_reducible repeat (first | refine blk_drewN ?_ _ | refine blk_drew ?_ | refine blk_alloc ?_ _)); exact BK210.out) hg (Kd.R_ne HO_6.out BK210.out (by decide))); replace HB := ak (hb); have HO213 := ak (ho); clear HO_6; clear ho hb hg hat))
     go_roundg k1
     case measure => have := HK1.out; omega
     case rel => exact ⟨(y211), (wrap64 (x17_1 + 1)), (t207), (t208), er, H', ⟨by have := HK1.out; omega⟩, ⟨rdl HO213⟩, ⟨blkd BK203⟩, ⟨blkd BK205⟩, ⟨belowg3 HB GE203 GE205 GE210⟩⟩
    ·rw [if_neg c6] at H
     have c6b0 : decide (x17_1 < (l0.length : Int)) = false := decide_eq_false c6
     clear c6
     simp only [Option.some.injEq, Prod.mk.injEq] at H
     obtain ⟨rfl, rfl, rfl, rfl⟩ := H
     try go_wp2
     replace HO_6 := ak (Kd.R_drew HO_6.out)
     replace BK203 := ak (blk_drew BK203.out)
     replace BK205 := ak (blk_drew BK205.out)
     replace HB := ak (below_drew1 HB.out)
     refine start_ (n := 5) (S := fun w' => w'.cell? ⟨gb205, 0, none⟩ = some (.int .i64 x206000_1) ∧ w'.cell? ⟨gb205, 1, none⟩ = some (.int .i64 x206001_1)) (ds := []) (bl 5 0) (by kernel_rfl) rfl rfl ⟨bq BK205 0, bq BK205 1⟩ (fun hHeld => ?_)
     generalize wr.drew = w20 at HO_6 BK203 BK205 HB hHeld ⊢
     refine pure_ (i := 0) (N := some 33) (v := ?_) (a' := ?_) (bl 5 1) rfl rfl (by kernel_rfl) (fun _ _ _ h => h) (Or.inl ⟨by rfl, ?_⟩) ?_ ?_
     rotate_left
     ·intro w'
      go_simp
      with_reducible rfl
     rotate_left
     ·simp only [Act.put, List.setIfInBounds_toArray, List.set_cons_zero, List.set_cons_succ, i64_w, i32_w]
      rfl
     refine pure_ (i := 2) (N := some 2) (v := ?_) (a' := ?_) (bl 5 5) rfl rfl (by kernel_rfl) (fun _ _ _ h => h) (Or.inl ⟨by rfl, ?_⟩) ?_ ?_
     rotate_left
     ·intro w'
      go_simp
      with_reducible rfl
     rotate_left
     ·simp only [Act.put, List.setIfInBounds_toArray, List.set_cons_zero, List.set_cons_succ, i64_w, i32_w]
      rfl
     refine take_ (i := 1) (N := some 34) (v := ?_) (a' := ?_) (bl 5 7) rfl rfl (by kernel_rfl) (fun _ _ _ h => h) (Or.inl ⟨by rfl, ?_⟩) hHeld ?_ ?_
     rotate_left
     ·rintro w' ⟨s0, s1⟩
      go_simp
      with_reducible rfl
     rotate_left
     ·simp only [Act.put, List.setIfInBounds_toArray, List.set_cons_zero, List.set_cons_succ, i64_w, i32_w]
      rfl
     refine one_ (i := 3) (N := none) (bl 5 15) rfl rfl (by kernel_rfl) (by decide) (fun K hK => ?_)
     have hs21 : w20.cell? ⟨gb203, 0, none⟩ = some (.int .i64 0) := bq BK203 0
     have hfs21 := blk_frozen BK203.out 0
     have hns21_1 := NB205_203.out; have hms21_1 := NB203_205.out
     have hs22 : w20.cell? ⟨gb203, 1, none⟩ = some (.int .i64 0) := bq BK203 1
     have hfs22 := blk_frozen BK203.out 1
     have hns22_1 := NB205_203.out; have hms22_1 := NB203_205.out
     refine skip_ (w1 := ?_) (by rfl) rfl ?_ ?_
     rotate_left
     ·go_simp
      rfl
     refine hK.out _ _ ⟨((cell_far (p := ⟨gb203, _, none⟩) NB205_203.out _).trans (((cell_far (p := ⟨gb203, _, none⟩) NB205_203.out _).trans (hHeld.1)))), ((cell_far (p := ⟨gb203, _, none⟩) NB205_203.out _).trans (((cell_far (p := ⟨gb203, _, none⟩) NB205_203.out _).trans (hHeld.2))))⟩ (fun hHeld => ?_)
     clear hK K
     refine pure_ (i := 4) (N := some 4) (v := ?_) (a' := ?_) (bl 5 31) rfl rfl (by kernel_rfl) (fun _ _ _ h => h) (Or.inl ⟨by rfl, ?_⟩) ?_ ?_
     rotate_left
     ·intro w'
      go_simp
      with_reducible rfl
     rotate_left
     ·simp only [Act.put, List.setIfInBounds_toArray, List.set_cons_zero, List.set_cons_succ, i64_w, i32_w]
      rfl
     refine done_ (by kernel_rfl) ?_
     try go_wp2
     refine bodyPost_ret (results_list (rs := [.tmp 2, .cell 3 80, .tmp 4]) rfl (by simp) (.tmp (.cell gb203 80 #[.int .i64 x206000_1, .int .i64 x206001_1] (0, 0) _ rfl (by (with_reducible repeat (first | refine blk_drewN ?_ _ | refine blk_drew ?_ | refine blk_alloc ?_ _)); refine blk_put (cs := #[.int .i64 x206000_1, .int .i64 0]) ?_ 1 _ rfl; (with_reducible repeat (first | refine blk_drewN ?_ _ | refine blk_drew ?_ | refine blk_alloc ?_ _)); refine blk_put (cs := #[.int .i64 0, .int .i64 0]) ?_ 0 _ rfl; (with_reducible repeat (first | refine blk_drewN ?_ _ | refine blk_drew ?_ | refine blk_alloc ?_ _)); exact BK203.out) Try.underlying80 rfl (by kernel_rfl) (.tmp .nil)))) rfl ?_
     exact ⟨_, er2, by (with_reducible repeat (first | apply Kd.R_alloc | apply Kd.R_drewN | apply Kd.R_drew)); exact Kd.R_mono (farsR (Kd.R_types HO_6.out BK203.out (by decide))) (fun _ hk => trivial), belowg2 HB GE203 GE205⟩
 ·replace c3 := Bool.eq_false_iff.mpr c3
  subst c3
  have H1 : (some (([] : List Int), 0, 0, false)) = some (r1, r2, r3, r4) := by rw [if_neg (show ¬ (false = true) by decide)] at H; exact H
  clear H
  have H := H1
  clear H1
  simp only [Option.some.injEq, Prod.mk.injEq] at H
  obtain ⟨rfl, rfl, rfl, rfl⟩ := H
  go_enter Try.func84, Try.ntmps84
  go_wp2_with (first | ((with_reducible refine gate_dst (N := 3) rfl ?_); refine boxev 3 #[.int .i64 0, .int .i64 0] 80 ?_; intro gb203 hg w23 hbox hb; have BK203 := ak (hbox); have GW203 := ak (hgl hg (belowd HB)); have GE203 := ak (hgl hg (belowd HB)); replace HB := ak (below_step (belowd HB) hb); clear hb hbox hg) | ((with_reducible refine gate_callee (f := 145) rfl ?_); refine goesLa (some 12) rfl Try.func145 #[.slice A0 l0.length c0] rfl ?_; (with_reducible refine (spec_l16Numbers.calls k _ _ l0 false _ ?side1 ?side2 A2.out).mono ?_); (case side1 => exact cd (Kd.C_below HR0.out HB.out)); (case side2 => exact HC0.out); rintro e w' ⟨rfl, ⟨nd, rfl⟩⟩; refine ⟨_, rfl, ?_⟩; (try (rw [drewN_self w23]; generalize hq_ : World.drewN w23 _ = w23; have n0_ : Aside0 (w23.heap[gb203]? = some (.cells #[.int .i64 0, .int .i64 0] 80 (0, 0))) := ⟨by rw [← hq_]; exact (blkd BK203)⟩; have n1_ : Aside0 (Below w.heap.size w w23) := ⟨by rw [← hq_]; exact (belowg1 HB GE203)⟩; clear BK203 HB hq_; have BK203 := n0_; have HB := n1_; clear n0_ n1_)); obtain ⟨hcz24_0, hcz24_1, hfz24_0, hfz24_1⟩ := box2 BK203))
  refine bodyPost_ret (results_list (rs := [.tmp 2, .cell 3 80, .tmp 4]) rfl (by simp) (.tmp (.cell gb203 80 #[.int .i64 0, .int .i64 0] (0, 0) _ rfl (by (with_reducible repeat (first | refine blk_drewN ?_ _ | refine blk_drew ?_ | refine blk_alloc ?_ _)); refine blk_put (cs := #[.int .i64 0, .int .i64 0]) ?_ 1 _ rfl; (with_reducible repeat (first | refine blk_drewN ?_ _ | refine blk_drew ?_ | refine blk_alloc ?_ _)); refine blk_put (cs := #[.int .i64 0, .int .i64 0]) ?_ 0 _ rfl; (with_reducible repeat (first | refine blk_drewN ?_ _ | refine blk_drew ?_ | refine blk_alloc ?_ _)); exact BK203.out) Try.underlying80 rfl (by kernel_rfl) (.tmp .nil)))) rfl ?_
  exact ⟨_, er2, by first | exact Kd.R_nil _ _ _ _ _ | exact Kd.N_nil _ _ _ _ _ | exact Kd.V_nil _ _ _ _ _ | exact Kd.Q_nil _ _ _ _ _ | exact Kd.S_nil _ _ _ _ _, belowg1 HB GE203⟩

/-! ### impl_PlayAll: function 85 -/
set_option maxRecDepth 100000 in
theorem impl_PlayAll.keyed : Go.Maps.Keyed Try.prog 3 := Go.Maps.int_keyed Try.underlying3
set_option maxRecDepth 100000 in
theorem impl_PlayAll.zero (w : World) : (zeroValue 4).run Try.prog w = .ok (.bool false) w := by kernel_rfl
set_option maxRecDepth 100000 in
theorem impl_PlayAll.bool_inv {v : Value} {z : DataW Unit × List MemPlace} (h : plainElem (H := Unit) Try.prog 4 v = some z) : ∃ b, v = .bool b ∧ z = (.lit (.bool b), []) := by
 unfold plainElem at h
 rw [Try.underlying4] at h
 cases v <;> simp_all
/-- The numbers that a map tells as taken. -/
def impl_PlayAll.Mp (w : World) (mb : Nat) (xt : List Int) : Prop := ∃ D : DataW Unit, w.ownsMap Try.prog 3 (plainElem Try.prog 4) mb xt.length D ∧ ∀ n : Int, D.atKey (.int .i64 n) (.lit (.bool false)) = .lit (.bool (xt.contains n))
set_option maxRecDepth 100000 in
theorem impl_PlayAll.look {w : World} {ops : Array Oper} {rest : List Oper} {o : Oper} {a : Act} {Q : Exit → Act → World → Prop} (hg : o.guard = none) (m x : Operand) (hop : o.op = Op.lookup 165 m x false) (mb : Nat) (xt : List Int) (hm : a.eval m = .map (some mb)) (H : impl_PlayAll.Mp w mb xt) (n : Int) (hn : (Lit.int .i64 n).wf = true) (hx : a.eval x = .int .i64 n) (b : Bool) (hb : xt.contains n = b) (hK : wpList Try.prog ops Q rest (a.put o.dst (.bool b)) w) : wpList Try.prog ops Q (o :: rest) a w := by
 obtain ⟨D, h, hD⟩ := H
 refine wpList_plain hg fun K' hK' => ?_
 obtain ⟨v, ps, hrun, hv⟩ := h.lookup impl_PlayAll.keyed Try.underlying165 (impl_PlayAll.zero w) (plainElem_bool Try.underlying4 false) (Go.Maps.keyOf_int_mk Try.underlying3 hn)
 obtain ⟨c, rfl, hc⟩ := impl_PlayAll.bool_inv hv
 rw [hD n] at hc
 simp only [Prod.mk.injEq] at hc
 have e : xt.contains n = c := by
  have := hc.1
  injection this with this
  injection this
 rw [hb] at e
 subst e
 unfold Oper.wp
 simp [execOp, hop, hm, hx, hrun, Result.andThen]
 exact hK' _ _ hK
set_option maxRecDepth 100000 in
theorem impl_PlayAll.upd {w : World} {ops : Array Oper} {rest : List Oper} {o : Oper} {a : Act} {Q : Exit → Act → World → Prop} (hg : o.guard = none) (m x v : Operand) (hop : o.op = Op.mapUpdate 165 m x v) (mb : Nat) (xt : List Int) (hm : a.eval m = .map (some mb)) (H : impl_PlayAll.Mp w mb xt) (hl : xt.length < 1000) (n : Int) (hn : (Lit.int .i64 n).wf = true) (hx : a.eval x = .int .i64 n) (hv : a.eval v = .bool true) (hK : ∀ w', impl_PlayAll.Mp w' mb (xt ++ [n]) → w.grownBy w' (some mb) → wpList Try.prog ops Q rest (a.put o.dst undef) w') : wpList Try.prog ops Q (o :: rest) a w := by
 obtain ⟨D, h, hD⟩ := H
 refine wpList_mapUpdate_own w hg m x v 165 hop 3 4 impl_PlayAll.keyed Try.underlying165 (plainElem Try.prog 4) mb xt.length D hm h (by unfold maxLen; omega) _ _ _ hx hv (Go.Maps.keyOf_int_mk Try.underlying3 hn) _ [] (plainElem_bool Try.underlying4 true) ?_
 intro w' h' hg'
 refine hK w' ⟨_, by rw [List.length_append]; exact h', fun m => ?_⟩ hg'
 by_cases e : m = n
 ·subst e
  rw [Go.Maps.atKey_put_same h.isMap (by trivial)]
  simp
 ·rw [Go.Maps.atKey_put_other (by simpa using e), hD m]
  simp [e]
set_option maxRecDepth 100000 in
theorem impl_PlayAll.mp_kept {w w' : World} {row : Option Nat} {mb : Nat} {xt : List Int} (H : impl_PlayAll.Mp w mb xt) (hg : w.grownBy w' row) (hne : some mb ≠ row) : impl_PlayAll.Mp w' mb xt := by
 obtain ⟨D, h, hD⟩ := H
 exact ⟨D, h.kept hg hne, hD⟩
set_option maxRecDepth 100000 in
theorem impl_PlayAll.mp_ne {e : Nat} {w : World} {base : Nat} {ok : Nat → Prop} {v : Value} {xs : List Int} (h : Kd.R (Kd.int .i64) e w base ok v xs) {mb : Nat} {xt : List Int} (H : impl_PlayAll.Mp w mb xt) : Kd.R (Kd.int .i64) e w base (fun k => k ≠ mb) v xs := by
 obtain ⟨D, ⟨es, cl, hm, _⟩, _⟩ := H
 refine Kd.R_mono (Kd.R_bound h) (fun k hk e => ?_)
 subst e
 obtain ⟨_, _, _, q, _, c, hc⟩ := hk
 rw [hm] at hc
 cases hc
set_option maxRecDepth 100000 in
theorem impl_PlayAll.mp_made0 (w : World) : impl_PlayAll.Mp (w.alloc (.map #[] 0)) w.heap.size [] := ⟨_, World.ownsMap_made _ _ _ _, fun n => WideAt.atKey_none _ (by simp)⟩
set_option maxRecDepth 100000 in
theorem impl_PlayAll.mp_made (w : World) (m : Nat) : impl_PlayAll.Mp ((w.drewN m).alloc (.map #[] 0)) w.heap.size [] := by
 have := impl_PlayAll.mp_made0 (w.drewN m)
 have e : (w.drewN m).heap.size = w.heap.size := by simp
 rw [e] at this
 exact this
set_option maxRecDepth 100000 in
theorem impl_PlayAll.mp_below {w w' : World} {mb : Nat} {xt : List Int} (H : impl_PlayAll.Mp w mb xt) (hb : Below w.heap.size w w') : impl_PlayAll.Mp w' mb xt := by
 obtain ⟨D, h, hD⟩ := H
 have hlt := h.lt
 obtain ⟨es, cl, hm, r⟩ := h
 exact ⟨D, ⟨es, cl, (hb.block mb hlt).trans hm, r⟩, hD⟩
set_option maxRecDepth 100000 in
theorem impl_PlayAll.mp_alloc {w : World} {mb : Nat} {xt : List Int} (H : impl_PlayAll.Mp w mb xt) (o : Obj) : impl_PlayAll.Mp (w.alloc o) mb xt := impl_PlayAll.mp_below H (below_alloc (Below.refl _ _) o)
set_option maxRecDepth 100000 in
theorem impl_PlayAll.wf {n : Int} (h : 1 ≤ n ∧ n ≤ 100000) : (Lit.int .i64 n).wf = true := by
 have h1 : IntKind.i64.min = -9223372036854775808 := by decide
 have h2 : IntKind.i64.max = 9223372036854775807 := by decide
 simp [Lit.wf, h1, h2]; omega
def impl_PlayAll.g : List Int → List Int → Int → List Int → Option (List Int)
  | [], _, _, out => some out
  | n :: ns, xt, top, out => if 1 ≤ n ∧ n ≤ 100000 then (if xt.contains n = true then impl_PlayAll.g ns xt top (out ++ [1]) else (if 16 ≤ wrap64 (top - n) then impl_PlayAll.g ns xt top (out ++ [2]) else impl_PlayAll.g ns (xt ++ [n]) (if top < n then n else top) (out ++ [0]))) else none
def impl_PlayAll.f (k : Nat) (l0 : List Int) : Option (List Int × Bool) := (impl_areTaken.f k l0).bind fun t => (if t = true then (if l0.length ≤ 100 then ((impl_PlayAll.g l0 [] 0 []).bind fun r => some (r, true)) else (none)) else (some (([] : List Int), false)))
set_option maxRecDepth 100000 in
theorem impl_PlayAll.mono : ∀ a0 k, LeO (impl_PlayAll.f k a0) (impl_PlayAll.f (k + 1) a0) := by
 intro a0 k r h
 unfold impl_PlayAll.f at h ⊢
 obtain ⟨t, h1, h2⟩ := Option.bind_eq_some_iff.mp h
 exact Option.bind_eq_some_iff.mpr ⟨t, impl_areTaken.mono a0 k t h1, h2⟩
set_option maxHeartbeats 8000000 in
set_option maxRecDepth 100000 in
theorem impl_PlayAll.calls (k : Nat) (A0 : Option Addr) (c0 : Nat) (l0 : List Int) (r1 : List Int) (r2 : Bool) (w : World) (hr0 : Kd.C (Kd.int .i64) w A0 l0.length l0) (hc0 : l0.length ≤ c0) (h : impl_PlayAll.f k l0 = some (r1, r2)) :
  Calls Try.prog 85 #[.slice A0 l0.length c0] w fun e w' => ∃ v0_ : Value, e = .returned (.tuple #[v0_, .bool r2]) ∧ Kd.R (Kd.int .i64) 3 w' w.heap.size (fun _ => True) v0_ r1 ∧ Below w.heap.size w w' := by
 have HR0 := Aside0.mk hr0; have HC0 := Aside0.mk hc0; clear hr0 hc0
 have HB := Aside0.mk (Below.refl w.heap.size w)
 unfold impl_PlayAll.f at h
 obtain ⟨t, A20, h⟩ := Option.bind_eq_some_iff.mp h
 have A2 := Aside0.mk A20; clear A20
 cases t with
 | false =>
  rw [if_neg (by decide)] at h
  simp only [Option.some.injEq, Prod.mk.injEq] at h
  obtain ⟨rfl, rfl⟩ := h
  go_enter Try.func85, Try.ntmps85
  go_wp2_with (first | ((with_reducible refine gate_callee (f := 143) rfl ?_); refine goesLa (some 11) rfl Try.func143 #[.slice A0 l0.length c0] rfl ?_; (with_reducible refine (impl_areTaken.calls k _ _ l0 false _ ?side1 ?side2 A2.out).mono ?_); (case side1 => exact HR0.out); (case side2 => exact HC0.out); rintro e w' ⟨rfl, ⟨nd, rfl⟩⟩; refine ⟨_, rfl, ?_⟩))
  go_ret2
  exact ⟨_, rfl, Kd.R_nil _ _ _ _ _, by repeat (first | exact HB.out | apply below_alloc | apply pw_below_drewN | apply below_drew1)⟩
 | true =>
  rw [if_pos rfl] at h
  by_cases hl : l0.length ≤ 100
  case neg => rw [if_neg hl] at h; exact absurd h (by simp)
  rw [if_pos hl] at h
  obtain ⟨rr, hg0, h⟩ := Option.bind_eq_some_iff.mp h
  simp only [Option.some.injEq, Prod.mk.injEq] at h
  obtain ⟨rfl, rfl⟩ := h
  have HG0 := Aside0.mk hg0; clear hg0
  have hmm := @run_makeMap Try.prog
  go_enter Try.func85, Try.ntmps85
  go_wp2_with (first | ((with_reducible refine gate_callee (f := 143) rfl ?_); refine goesLa (some 11) rfl Try.func143 #[.slice A0 l0.length c0] rfl ?_; (with_reducible refine (impl_areTaken.calls k _ _ l0 true _ ?side1 ?side2 A2.out).mono ?_); (case side1 => exact HR0.out); (case side2 => exact HC0.out); rintro e w' ⟨rfl, ⟨nd, rfl⟩⟩; refine ⟨_, rfl, ?_⟩) | ((with_reducible refine gate_dst (N := 14) rfl ?_); refine Kd.R_lit (Kd.int .i64) _ 3 ?hg (N := 14) ?hd (xs := ([] : List Int)) (inner := []) (ok := fun _ => True) (okp := fun _ => True) ?hr ?hp (fun _ hk => hk) trivial (Below.refl _ _) (Nat.le_refl _) (by simp) ?_; (case hd => rfl); (case hg => rfl); (case hr => first | (go_simp; done) | (go_simp; rfl)); (case hp => exact (Reps.none _ _)); intro v14 w5 ho6 hb hg_ hnew_; clear hg_ hnew_; have HM := Aside0.mk (impl_PlayAll.mp_below (impl_PlayAll.mp_made _ _) hb); have HO := Aside0.mk (Kd.R_lower ho6 (below_size (by repeat (first | exact HB.out | apply below_alloc | apply pw_below_drewN | apply below_drew1)))); have n2_ := Aside0.mk (below_step (by repeat (first | exact HB.out | apply below_alloc | apply pw_below_drewN | apply below_drew1)) hb); clear HB; have HB := n2_; clear n2_ hb ho6))
  go_loopg [5, 6, 17] (l0.length + 1) (fun kq v5 v6 v17 w' => ∃ (xt : List Int) (top : Int) (out : List Int) (i : Nat), v5 = .int .i64 top ∧ v17 = .int .i64 (i : Int) ∧ Aside0 (impl_PlayAll.g (l0.drop i) xt top out = some rr) ∧ Aside0 (l0.length + 1 ≤ i + kq) ∧ Aside0 (i ≤ l0.length) ∧ Aside0 (xt.length ≤ i) ∧ Aside0 (out.length ≤ i) ∧ Aside0 (impl_PlayAll.Mp w' w.heap.size xt) ∧ Aside0 (Kd.R (Kd.int .i64) 3 w' w.heap.size (fun _ => True) v6 out) ∧ Aside0 (Below w.heap.size w w'))
  case atStart => exact ⟨[], 0, [], 0, rfl, rfl, ⟨by simpa using HG0.out⟩, ⟨by omega⟩, ⟨by omega⟩, ⟨by simp⟩, ⟨by simp⟩, ⟨HM.out⟩, ⟨HO.out⟩, ⟨HB.out⟩⟩
  case round =>
   obtain ⟨xt, top, out, i, rfl, rfl, HG, HK, Hi, Hx, Ho, HM, HO, HB⟩ := hrel
   by_cases c : i < l0.length
   ·obtain ⟨k1, rfl⟩ : ∃ k1, gk = k1 + 1 := ⟨gk - 1, by have := HK.out; omega⟩
    have cb : decide ((i : Int) < (l0.length : Int)) = true := decide_eq_true (by omega)
    have HG1 := HG.out
    rw [List.drop_eq_getElem_cons c] at HG1
    have en : l0[i] = rd l0 (i : Int) := by simp [rd, c]
    rw [en] at HG1
    obtain ⟨ad, e1, hx⟩ := Kd.at_int HR0.out (i : Int) (by omega) (by omega)
    cases e1
    replace hx := (HB.out.cell (World.block_lt_of_cell? w _ hx)).trans hx
    simp only [Int.toNat_natCast] at hx
    have p0 : (0 ≤ (i : Int)) = True := eq_true (by omega)
    have q0 : ((i : Int) < (l0.length : Int)) = True := eq_true (by omega)
    simp only [impl_PlayAll.g] at HG1
    clear en
    generalize rd l0 (i : Int) = n at HG1 hx
    by_cases cr : 1 ≤ n ∧ n ≤ 100000
    ·rw [if_pos cr] at HG1
     have hn : (Lit.int .i64 n).wf = true := impl_PlayAll.wf cr
     clear cr
     by_cases c1 : xt.contains n = true
     ·rw [if_pos c1] at HG1
      go_wp2_with (first | (at_lookup; refine impl_PlayAll.look rfl _ _ rfl w.heap.size xt rfl HM.out n hn rfl true c1 ?_) | ((with_reducible refine gate_builtin (b := .append) (xs := #[.tmp 35, .tmp 37]) rfl ?_); at_builtin; refine Kd.R_append (Kd.int .i64) (w0 := w) w.heap.size rfl (.tmp 35) (.tmp 37) 51 3 (.int .i64 0) 8 rfl Try.underlying51 info3 rfl (by decide) (by omega) u6 out 1 [.int .i64 1] (fun _ => True) (fun _ => False) rfl rfl ?aP (fun _ hk => hk.elim) ?aF ?aO ?aB ?aS ?aL ?_; (case aP => exact rfl); (case aB => exact (by repeat (first | exact HB.out | apply below_alloc | apply pw_below_drewN | apply below_drew1))); (case aF => exact (fun _ _ => trivial)); (case aO => exact (rdl HO)); (case aS => exact (below_size (by repeat (first | exact HB.out | apply below_alloc | apply pw_below_drewN | apply below_drew1)))); (case aL => have := Ho.out; have := Hi.out; omega); intro v15 w15 ho hb hg hat; have n0_ := Aside0.mk (impl_PlayAll.mp_kept (by repeat (first | exact HM.out | apply impl_PlayAll.mp_alloc)) hg (Kd.R_away (impl_PlayAll.mp_ne HO.out HM.out) (fun _ hk => hk))); have n1_ := Aside0.mk ho; have n2_ := Aside0.mk hb; clear HM HO HB; have HM := n0_; have HO := n1_; have HB := n2_; clear n0_ n1_ n2_; clear ho hb hg hat))
      go_roundg k1
      case measure => omega
      case rel => exact ⟨xt, top, out ++ [1], i + 1, rfl, (by (try simp only [goInt, IntKind.wrap_i64]); exact congrArg (Value.int .i64) (by first | omega | (unfold wrap64; omega))), ⟨HG1⟩, ⟨by have := HK.out; omega⟩, ⟨by omega⟩, ⟨by have := Hx.out; simp; omega⟩, ⟨by have := Ho.out; simp; omega⟩, ⟨HM.out⟩, ⟨HO.out⟩, ⟨HB.out⟩⟩
     ·rw [if_neg c1] at HG1
      replace c1 := Bool.eq_false_iff.mpr c1
      by_cases c2 : 16 ≤ wrap64 (top - n)
      ·rw [if_pos c2] at HG1
       have c2b : decide (16 ≤ wrap64 (top - n)) = true := decide_eq_true c2
       go_wp2_with (first | (at_lookup; refine impl_PlayAll.look rfl _ _ rfl w.heap.size xt rfl HM.out n hn rfl false c1 ?_) | ((with_reducible refine gate_builtin (b := .append) (xs := #[.tmp 35, .tmp 37]) rfl ?_); at_builtin; refine Kd.R_append (Kd.int .i64) (w0 := w) w.heap.size rfl (.tmp 35) (.tmp 37) 51 3 (.int .i64 0) 8 rfl Try.underlying51 info3 rfl (by decide) (by omega) u6 out 2 [.int .i64 2] (fun _ => True) (fun _ => False) rfl rfl ?aP (fun _ hk => hk.elim) ?aF ?aO ?aB ?aS ?aL ?_; (case aP => exact rfl); (case aB => exact (by repeat (first | exact HB.out | apply below_alloc | apply pw_below_drewN | apply below_drew1))); (case aF => exact (fun _ _ => trivial)); (case aO => exact (rdl HO)); (case aS => exact (below_size (by repeat (first | exact HB.out | apply below_alloc | apply pw_below_drewN | apply below_drew1)))); (case aL => have := Ho.out; have := Hi.out; omega); intro v15 w15 ho hb hg hat; have n0_ := Aside0.mk (impl_PlayAll.mp_kept (by repeat (first | exact HM.out | apply impl_PlayAll.mp_alloc)) hg (Kd.R_away (impl_PlayAll.mp_ne HO.out HM.out) (fun _ hk => hk))); have n1_ := Aside0.mk ho; have n2_ := Aside0.mk hb; clear HM HO HB; have HM := n0_; have HO := n1_; have HB := n2_; clear n0_ n1_ n2_; clear ho hb hg hat))
       go_roundg k1
       case measure => omega
       case rel => exact ⟨xt, top, out ++ [2], i + 1, rfl, (by (try simp only [goInt, IntKind.wrap_i64]); exact congrArg (Value.int .i64) (by first | omega | (unfold wrap64; omega))), ⟨HG1⟩, ⟨by have := HK.out; omega⟩, ⟨by omega⟩, ⟨by have := Hx.out; simp; omega⟩, ⟨by have := Ho.out; simp; omega⟩, ⟨HM.out⟩, ⟨HO.out⟩, ⟨HB.out⟩⟩
      ·rw [if_neg c2] at HG1
       have c2b : decide (16 ≤ wrap64 (top - n)) = false := decide_eq_false c2
       obtain ⟨mm, hmx⟩ : ∃ mm, (if top < n then n else top) = mm := ⟨_, rfl⟩
       rw [hmx] at HG1
       go_wp2_with (first | (at_lookup; refine impl_PlayAll.look rfl _ _ rfl w.heap.size xt rfl HM.out n hn rfl false c1 ?_) | (at_mapUpdate; refine impl_PlayAll.upd rfl _ _ _ rfl w.heap.size xt rfl HM.out (by have := Hx.out; have := Hi.out; omega) n hn rfl rfl ?_; intro w1 HM1 hg1; have n0_ := Aside0.mk HM1; have n1_ := Aside0.mk (Kd.R_mono (Kd.R_grown (impl_PlayAll.mp_ne HO.out HM.out) hg1 (fun k hk e => hk (Option.some.inj e))) (fun _ _ => trivial : ∀ k, k ≠ w.heap.size → True)); have n2_ := Aside0.mk (HB.out.grown hg1 (below_size HB.out) (fun j hj => by cases hj; exact Nat.le_refl _)); clear HM HO HB HM1 hg1; have HM := n0_; have HO := n1_; have HB := n2_; clear n0_ n1_ n2_) | ((with_reducible refine gate_builtin (b := .append) (xs := #[.tmp 35, .tmp 37]) rfl ?_); at_builtin; refine Kd.R_append (Kd.int .i64) (w0 := w) w.heap.size rfl (.tmp 35) (.tmp 37) 51 3 (.int .i64 0) 8 rfl Try.underlying51 info3 rfl (by decide) (by omega) u6 out 0 [.int .i64 0] (fun _ => True) (fun _ => False) rfl rfl ?aP (fun _ hk => hk.elim) ?aF ?aO ?aB ?aS ?aL ?_; (case aP => exact rfl); (case aB => exact (by repeat (first | exact HB.out | apply below_alloc | apply pw_below_drewN | apply below_drew1))); (case aF => exact (fun _ _ => trivial)); (case aO => exact (rdl HO)); (case aS => exact (below_size (by repeat (first | exact HB.out | apply below_alloc | apply pw_below_drewN | apply below_drew1)))); (case aL => have := Ho.out; have := Hi.out; omega); intro v15 w15 ho hb hg hat; have n0_ := Aside0.mk (impl_PlayAll.mp_kept (by repeat (first | exact HM.out | apply impl_PlayAll.mp_alloc)) hg (Kd.R_away (impl_PlayAll.mp_ne HO.out HM.out) (fun _ hk => hk))); have n1_ := Aside0.mk ho; have n2_ := Aside0.mk hb; clear HM HO HB; have HM := n0_; have HO := n1_; have HB := n2_; clear n0_ n1_ n2_; clear ho hb hg hat))
       go_roundg k1
       case measure => omega
       case rel => exact ⟨xt ++ [n], mm, out ++ [0], i + 1, rfl, (by (try simp only [goInt, IntKind.wrap_i64]); exact congrArg (Value.int .i64) (by first | omega | (unfold wrap64; omega))), ⟨HG1⟩, ⟨by have := HK.out; omega⟩, ⟨by omega⟩, ⟨by have := Hx.out; simp; omega⟩, ⟨by have := Ho.out; simp; omega⟩, ⟨HM.out⟩, ⟨HO.out⟩, ⟨HB.out⟩⟩
    ·rw [if_neg cr] at HG1
     exact absurd HG1 (by simp)
   ·have cb : decide ((i : Int) < (l0.length : Int)) = false := decide_eq_false (by omega)
    have HG1 := HG.out
    rw [List.drop_eq_nil_of_le (by omega)] at HG1
    simp only [impl_PlayAll.g, Option.some.injEq] at HG1
    subst HG1; go_wp2
    go_ret2
    exact ⟨_, rfl, by (with_reducible repeat (first | apply Kd.R_alloc | apply Kd.R_drewN | apply Kd.R_drew)); exact HO.out, by repeat (first | exact HB.out | apply below_alloc | apply pw_below_drewN | apply below_drew1)⟩

/-! ### spec_l1Has: function 147 -/
def spec_l1Has.l0 : Nat → Int → List Int → Int → Int → Option (Bool)
  | 0, _, _, _, _ => none
  | k + 1, x1, x7, x8, x9 => if x9 < x8 then (if 0 ≤ x9 then (if x9 < (x7.length : Int) then (if (rd x7 x9) = x1 then (some true) else (spec_l1Has.l0 k x1 x7 x8 (wrap64 (x9 + 1)))) else (none)) else (none)) else (some false)
def spec_l1Has.f (k : Nat) (l0 : List Int) (a1 : Int) : Option (Bool) := spec_l1Has.l0 k a1 l0 (l0.length : Int) 0
theorem spec_l1Has.mono_l : ∀ k, (∀ y0 y1 y2 y3, LeO (spec_l1Has.l0 k y0 y1 y2 y3) (spec_l1Has.l0 (k + 1) y0 y1 y2 y3))
 | 0 => fun _ _ _ _ r h => by simp [spec_l1Has.l0] at h
 | k + 1 => by
  have ih0 := spec_l1Has.mono_l k
  ·intro y0 y1 y2 y3
   unfold spec_l1Has.l0
   repeat' (first | (with_reducible first | exact ih0 _ _ _ _ | exact LeO.refl _ | exact LeO.none _ | refine LeO.ite ?_ ?_ | refine LeO.bind ?_ (fun _ => ?_)) | exact ih0 _ _ _ _ | exact LeO.none _ | refine LeO.ite ?_ ?_ | refine LeO.bind ?_ (fun _ => ?_))
theorem spec_l1Has.mono : ∀ a0 a1 k, LeO (spec_l1Has.f k a0 a1) (spec_l1Has.f (k + 1) a0 a1) := by
 intro a0 a1 k
 have ih0 := spec_l1Has.mono_l k
 unfold spec_l1Has.f
 repeat' (first | (with_reducible first | exact ih0 _ _ _ _ | exact LeO.refl _ | exact LeO.none _ | refine LeO.ite ?_ ?_ | refine LeO.bind ?_ (fun _ => ?_)) | exact ih0 _ _ _ _ | exact LeO.none _ | refine LeO.ite ?_ ?_ | refine LeO.bind ?_ (fun _ => ?_))
set_option maxHeartbeats 8000000 in
set_option maxRecDepth 100000 in
theorem spec_l1Has.calls (k : Nat) (A0 : Option Addr) (c0 : Nat) (l0 : List Int) (a1 : Int) (r : Bool) (w : World) (hr0 : Kd.C (Kd.int .i64) w A0 l0.length l0) (hc0 : l0.length ≤ c0) (h : spec_l1Has.f k l0 a1 = some r) :
  Calls Try.prog 147 #[.slice A0 l0.length c0, .int .i64 a1] w fun e w' => e = .returned (.bool r) ∧ Drawn0 w w' := by
 have HR0 := Aside0.mk hr0; have HC0 := Aside0.mk hc0; clear hr0 hc0
 have H : (spec_l1Has.l0 k a1 l0 (l0.length : Int) 0) = some r := h
 clear h
 have H' := Aside0.mk H
 clear H
 go_enter Try.func147, Try.ntmps147
 go_wp2
 go_loopg [9] k (fun kq v9 w' => ∃ (x9_1 : Int), v9 = .int .i64 x9_1 ∧ Aside0 (spec_l1Has.l0 kq a1 l0 (l0.length : Int) x9_1 = some r) ∧ Aside0 (kq ≤ k) ∧ Drawn0 w w')
 case atStart => exact ⟨(0), er, H', ⟨Nat.le_refl _⟩, drw⟩
 case round =>
  clear H'
  obtain ⟨x9_1, rfl, HA, HK1, ⟨m1, rfl⟩⟩ := hrel
  cases gk with
  | zero => exact absurd HA.out (by simp [spec_l1Has.l0])
  | succ k1 =>
   have H := HA.out; clear HA
   simp only [spec_l1Has.l0] at H
   by_cases c3 : x9_1 < (l0.length : Int)
   ·rw [if_pos c3] at H
    have c3b0 : decide (x9_1 < (l0.length : Int)) = true := decide_eq_true c3
    clear c3; replace H := ifS H; obtain ⟨c4, H⟩ := H; have c4b0 := decide_eq_true c4; clear c4; replace H := ifS H; obtain ⟨c5, H⟩ := H; have c5b0 := decide_eq_true c5; clear c5
    by_cases c6 : (rd l0 x9_1) = a1
    ·rw [if_pos c6] at H
     have c6b0 : ((rd l0 x9_1) == a1) = true := beq_iff_eq.mpr c6
     have c6b1 : ((rd l0 x9_1) != a1) = false := bne_eq_false_iff_eq.mpr c6
     clear c6
     obtain rfl := Option.some.inj H
     have p214 : 0 ≤ (x9_1 : Int) := da
     have q214 : x9_1 < (l0.length : Int) := da
     obtain ⟨ad214, e214, hx214_0⟩ := Kd.at_int HR0.out x9_1 p214 q214
     cases e214
     replace p214 := eq_true p214; replace q214 := eq_true q214; go_wp2
     go_ret
     exact ⟨er, drw⟩
    ·rw [if_neg c6] at H
     have c6b0 : ((rd l0 x9_1) == a1) = false := beq_eq_false_iff_ne.mpr c6
     have c6b1 : ((rd l0 x9_1) != a1) = true := bne_iff_ne.mpr c6
     have H' := Aside0.mk H
     clear H
     have p214 : 0 ≤ (x9_1 : Int) := da
     have q214 : x9_1 < (l0.length : Int) := da
     obtain ⟨ad214, e214, hx214_0⟩ := Kd.at_int HR0.out x9_1 p214 q214
     cases e214
     replace p214 := eq_true p214; replace q214 := eq_true q214; go_wp2
     go_roundg k1
     case measure => have := HK1.out; omega
     case rel => exact ⟨(wrap64 (x9_1 + 1)), er, H', ⟨by have := HK1.out; omega⟩, drw⟩
   ·rw [if_neg c3] at H
    have c3b0 : decide (x9_1 < (l0.length : Int)) = false := decide_eq_false c3
    clear c3
    obtain rfl := Option.some.inj H
    go_wp2
    go_ret
    exact ⟨er, drw⟩

/-! ### spec_PlayAll: function 86 -/
def spec_PlayAll.l0 : Nat → List Int → List Int → Int → List Int → Int → Int → Option (List Int × Bool)
  | 0, _, _, _, _, _, _ => none
  | k + 1, x4, x5, x6, x12, x13, x14 => if x14 < x13 then (if 0 ≤ x14 then (if x14 < (x12.length : Int) then ((spec_l1Has.f k x4 (rd x12 x14)).bind fun t217 => (if t217 = true then (if x5.length < 17592186044416 then (spec_PlayAll.l0 k x4 (x5 ++ [1]) x6 x12 x13 (wrap64 (x14 + 1))) else (none)) else (if (wrap64 (x6 - (rd x12 x14))) ≥ 16 then (if x5.length < 17592186044416 then (spec_PlayAll.l0 k x4 (x5 ++ [2]) x6 x12 x13 (wrap64 (x14 + 1))) else (none)) else (if x5.length < 17592186044416 then ((some (x5 ++ [0] : List Int)).bind fun y224 => (if x4.length < 17592186044416 then ((some (x4 ++ [rd x12 x14] : List Int)).bind fun y227 => (if (rd x12 x14) > x6 then (spec_PlayAll.l0 k y227 y224 (rd x12 x14) x12 x13 (wrap64 (x14 + 1))) else (spec_PlayAll.l0 k y227 y224 x6 x12 x13 (wrap64 (x14 + 1))))) else (none))) else (none))))) else (none)) else (none)) else (some (x5, true))
def spec_PlayAll.f (k : Nat) (l0 : List Int) : Option (List Int × Bool) := (spec_l16Numbers.f k l0).bind fun t215 => (if t215 = true then (spec_PlayAll.l0 k ([] : List Int) ([] : List Int) 0 l0 (l0.length : Int) 0) else (some (([] : List Int), false)))
theorem spec_PlayAll.mono_l : ∀ k, (∀ y0 y1 y2 y3 y4 y5, LeO (spec_PlayAll.l0 k y0 y1 y2 y3 y4 y5) (spec_PlayAll.l0 (k + 1) y0 y1 y2 y3 y4 y5))
 | 0 => fun _ _ _ _ _ _ r h => by simp [spec_PlayAll.l0] at h
 | k + 1 => by
  have ih0 := spec_PlayAll.mono_l k
  ·intro y0 y1 y2 y3 y4 y5
   unfold spec_PlayAll.l0
   repeat' (first | (with_reducible first | exact ih0 _ _ _ _ _ _ | exact spec_l16Numbers.mono _ _ | exact spec_l1Has.mono _ _ _ | exact LeO.refl _ | exact LeO.none _ | refine LeO.ite ?_ ?_ | refine LeO.bind ?_ (fun _ => ?_)) | exact ih0 _ _ _ _ _ _ | exact spec_l16Numbers.mono _ _ | exact spec_l1Has.mono _ _ _ | exact LeO.none _ | refine LeO.ite ?_ ?_ | refine LeO.bind ?_ (fun _ => ?_))
theorem spec_PlayAll.mono : ∀ a0 k, LeO (spec_PlayAll.f k a0) (spec_PlayAll.f (k + 1) a0) := by
 intro a0 k
 have ih0 := spec_PlayAll.mono_l k
 unfold spec_PlayAll.f
 repeat' (first | (with_reducible first | exact ih0 _ _ _ _ _ _ | exact spec_l16Numbers.mono _ _ | exact spec_l1Has.mono _ _ _ | exact LeO.refl _ | exact LeO.none _ | refine LeO.ite ?_ ?_ | refine LeO.bind ?_ (fun _ => ?_)) | exact ih0 _ _ _ _ _ _ | exact spec_l16Numbers.mono _ _ | exact spec_l1Has.mono _ _ _ | exact LeO.none _ | refine LeO.ite ?_ ?_ | refine LeO.bind ?_ (fun _ => ?_))
set_option maxHeartbeats 8000000 in
set_option maxRecDepth 100000 in
theorem spec_PlayAll.calls (k : Nat) (A0 : Option Addr) (c0 : Nat) (l0 : List Int) (r1 : List Int) (r2 : Bool) (w : World) (hr0 : Kd.C (Kd.int .i64) w A0 l0.length l0) (hc0 : l0.length ≤ c0) (h : spec_PlayAll.f k l0 = some (r1, r2)) :
  Calls Try.prog 86 #[.slice A0 l0.length c0] w fun e w' => ∃ v0_ : Value, e = .returned (.tuple #[v0_, .bool r2]) ∧ Kd.R (Kd.int .i64) 3 w' w.heap.size (fun _ => True) v0_ r1 ∧ Below w.heap.size w w' := by
 have HR0 := Aside0.mk hr0; have HC0 := Aside0.mk hc0; clear hr0 hc0
 have HB := Aside0.mk (Below.refl w.heap.size w)
 have H : ((spec_l16Numbers.f k l0).bind fun t215 => (if t215 = true then (spec_PlayAll.l0 k ([] : List Int) ([] : List Int) 0 l0 (l0.length : Int) 0) else (some (([] : List Int), false)))) = some (r1, r2) := h
 clear h; replace H := bS H; obtain ⟨t215, A2, H⟩ := H
 replace H : (if t215 = true then (spec_PlayAll.l0 k ([] : List Int) ([] : List Int) 0 l0 (l0.length : Int) 0) else (some (([] : List Int), false))) = some (r1, r2) := H
 by_cases c3 : t215 = true
 ·subst c3
  have H1 : (spec_PlayAll.l0 k ([] : List Int) ([] : List Int) 0 l0 (l0.length : Int) 0) = some (r1, r2) := by rw [if_pos rfl] at H; exact H
  clear H
  have H := H1
  clear H1
  have H' := Aside0.mk H
  clear H
  go_enter Try.func86, Try.ntmps86
  go_wp2_with (first | ((with_reducible refine gate_callee (f := 145) rfl ?_); refine goesLa (some 10) rfl Try.func145 #[.slice A0 l0.length c0] rfl ?_; (with_reducible refine (spec_l16Numbers.calls k _ _ l0 true _ ?side1 ?side2 A2.out).mono ?_); (case side1 => exact cd HR0.out); (case side2 => exact HC0.out); rintro e w' ⟨rfl, ⟨nd, rfl⟩⟩; refine ⟨_, rfl, ?_⟩))
  go_loopg [4, 5, 6, 14] k (fun kq v4 v5 v6 v14 w' => ∃ (x4_1 : List Int) (x5_1 : List Int) (x6_1 : Int) (x14_1 : Int), v6 = .int .i64 x6_1 ∧ v14 = .int .i64 x14_1 ∧ Aside0 (spec_PlayAll.l0 kq x4_1 x5_1 x6_1 l0 (l0.length : Int) x14_1 = some (r1, r2)) ∧ Aside0 (kq ≤ k) ∧ Aside0 (Kd.R (Kd.int .i64) 3 w' w.heap.size (fun k_ => some k_ ≠ (v5 : Value).ownBlock) v4 x4_1) ∧ Aside0 (Kd.R (Kd.int .i64) 3 w' w.heap.size (fun k_ => some k_ ≠ (v4 : Value).ownBlock) v5 x5_1) ∧ Aside0 (Below w.heap.size w w'))
  case atStart => exact ⟨(([] : List Int)), (([] : List Int)), (0), (0), er, er, H', ⟨Nat.le_refl _⟩, ⟨by first | exact Kd.R_nil _ _ _ _ _ | exact Kd.N_nil _ _ _ _ _ | exact Kd.V_nil _ _ _ _ _ | exact Kd.Q_nil _ _ _ _ _ | exact Kd.S_nil _ _ _ _ _⟩, ⟨by first | exact Kd.R_nil _ _ _ _ _ | exact Kd.N_nil _ _ _ _ _ | exact Kd.V_nil _ _ _ _ _ | exact Kd.Q_nil _ _ _ _ _ | exact Kd.S_nil _ _ _ _ _⟩, ⟨belowd HB⟩⟩
  case round =>
   clear H'
   (try clear c3)
   obtain ⟨x4_1, x5_1, x6_1, x14_1, rfl, rfl, HA, HK1, HO_4, HO_5, HB⟩ := hrel
   cases gk with
   | zero => exact absurd HA.out (by simp [spec_PlayAll.l0])
   | succ k1 =>
    have H := HA.out; clear HA
    simp only [spec_PlayAll.l0] at H
    by_cases c4 : x14_1 < (l0.length : Int)
    ·rw [if_pos c4] at H
     have c4b0 : decide (x14_1 < (l0.length : Int)) = true := decide_eq_true c4
     clear c4; replace H := ifS H; obtain ⟨c5, H⟩ := H; have c5b0 := decide_eq_true c5; clear c5; replace H := ifS H; obtain ⟨c6, H⟩ := H; have c6b0 := decide_eq_true c6; clear c6; replace H := bS H; obtain ⟨t217, A7, H⟩ := H
     replace H : (if t217 = true then (if x5_1.length < 17592186044416 then (spec_PlayAll.l0 k1 x4_1 (x5_1 ++ [1]) x6_1 l0 (l0.length : Int) (wrap64 (x14_1 + 1))) else (none)) else (if (wrap64 (x6_1 - (rd l0 x14_1))) ≥ 16 then (if x5_1.length < 17592186044416 then (spec_PlayAll.l0 k1 x4_1 (x5_1 ++ [2]) x6_1 l0 (l0.length : Int) (wrap64 (x14_1 + 1))) else (none)) else (if x5_1.length < 17592186044416 then ((some (x5_1 ++ [0] : List Int)).bind fun y224 => (if x4_1.length < 17592186044416 then ((some (x4_1 ++ [rd l0 x14_1] : List Int)).bind fun y227 => (if (rd l0 x14_1) > x6_1 then (spec_PlayAll.l0 k1 y227 y224 (rd l0 x14_1) l0 (l0.length : Int) (wrap64 (x14_1 + 1))) else (spec_PlayAll.l0 k1 y227 y224 x6_1 l0 (l0.length : Int) (wrap64 (x14_1 + 1))))) else (none))) else (none)))) = some (r1, r2) := H
     by_cases c8 : t217 = true
     ·subst c8
      have H1 : (if x5_1.length < 17592186044416 then (spec_PlayAll.l0 k1 x4_1 (x5_1 ++ [1]) x6_1 l0 (l0.length : Int) (wrap64 (x14_1 + 1))) else (none)) = some (r1, r2) := by rw [if_pos rfl] at H; exact H
      clear H
      have H := H1
      clear H1; replace H := ifS H; obtain ⟨c9, H⟩ := H; have LMc9 := Aside0.mk c9; clear c9
      obtain ⟨y218, hy_⟩ : ∃ y_ : List Int, y_ = (x5_1 ++ [1]) := ⟨_, rfl⟩
      replace H : (spec_PlayAll.l0 k1 x4_1 y218 x6_1 l0 (l0.length : Int) (wrap64 (x14_1 + 1))) = some (r1, r2) := yH
      have Ny218 := ak hy_; clear hy_
      have H' := Aside0.mk H
      clear H
      have p216 : 0 ≤ (x14_1 : Int) := da
      have q216 : x14_1 < (l0.length : Int) := da
      obtain ⟨ad216, e216, hx216_0⟩ := Kd.at_int HR0.out x14_1 p216 q216
      cases e216
      replace hx216_0 := (HB.out.cell (World.block_lt_of_cell? w _ hx216_0)).trans hx216_0
      replace p216 := eq_true p216; replace q216 := eq_true q216
      obtain ⟨Ao10, co10, eo10⟩ := Kd.R_slice HO_4.out
      subst eo10
      go_wp2_with (first | ((with_reducible refine gate_callee (f := 147) rfl ?_); refine goesLa (some 32) rfl Try.func147 #[.slice Ao10 x4_1.length co10, .int .i64 (rd l0 x14_1)] rfl ?_; (with_reducible refine (spec_l1Has.calls k1 _ _ x4_1 (rd l0 x14_1) true _ ?side1 ?side2 A7.out).mono ?_); (case side1 => exact cd (Kd.R_reads' HO_4.out).2.2); (case side2 => exact (Kd.R_reads' HO_4.out).2.1); rintro e w' ⟨rfl, ⟨nd, rfl⟩⟩; refine ⟨_, rfl, ?_⟩) | ((with_reducible refine gate_builtin (b := .append) (xs := #[.tmp 33, .tmp 34]) rfl ?_); at_builtin; refine Kd.R_append (Kd.int .i64) (w0 := w) w.heap.size rfl (.tmp 33) (.tmp 34) 51 3 (.int .i64 0) 8 rfl Try.underlying51 info3 rfl (by decide) (by omega) u5 x5_1 1 [.int .i64 1] (fun k_ => some k_ ≠ (.slice Ao10 x4_1.length co10 : Value).ownBlock) (fun _ => False) rfl rfl ?aP (fun _ hk => hk.elim) ?aF ?aO ?aB ?aS ?aL ?_; (case aP => exact rfl); (case aB => exact (belowd HB)); (case aF => exact (fun k_ hk => Kd.fresh' (Kd.R_lt (rdl HO_4)) k_ hk)); (case aO => exact (rdl HO_5)); (case aS => exact (below_size (belowd HB))); (case aL => have := LMc9.out; omega); intro v219 w11 ho hb hg hat; rw [← Ny218.out] at ho; replace HO_4 := ak (Kd.R_after (ok := (fun _ => True)) (by (with_reducible repeat (first | apply Kd.R_alloc | apply Kd.R_drewN | apply Kd.R_drew)); exact Kd.R_mono HO_4.out (fun _ hk => ⟨trivial, hk⟩)) hg hat); replace HB := ak (hb); have HO220 := ak (ho); clear HO_5; clear ho hb hg hat))
      go_roundg k1
      case measure => have := HK1.out; omega
      case rel => exact ⟨(x4_1), (y218), (x6_1), (wrap64 (x14_1 + 1)), er, er, H', ⟨by have := HK1.out; omega⟩, ⟨by (with_reducible repeat (first | apply Kd.R_alloc | apply Kd.R_drewN | apply Kd.R_drew)); exact Kd.R_mono HO_4.out (fun _ hk => hk.2)⟩, ⟨rdl HO220⟩, ⟨belowd HB⟩⟩
     ·replace c8 := Bool.eq_false_iff.mpr c8
      subst c8
      have H1 : (if (wrap64 (x6_1 - (rd l0 x14_1))) ≥ 16 then (if x5_1.length < 17592186044416 then (spec_PlayAll.l0 k1 x4_1 (x5_1 ++ [2]) x6_1 l0 (l0.length : Int) (wrap64 (x14_1 + 1))) else (none)) else (if x5_1.length < 17592186044416 then ((some (x5_1 ++ [0] : List Int)).bind fun y224 => (if x4_1.length < 17592186044416 then ((some (x4_1 ++ [rd l0 x14_1] : List Int)).bind fun y227 => (if (rd l0 x14_1) > x6_1 then (spec_PlayAll.l0 k1 y227 y224 (rd l0 x14_1) l0 (l0.length : Int) (wrap64 (x14_1 + 1))) else (spec_PlayAll.l0 k1 y227 y224 x6_1 l0 (l0.length : Int) (wrap64 (x14_1 + 1))))) else (none))) else (none))) = some (r1, r2) := by rw [if_neg (show ¬ (false = true) by decide)] at H; exact H
      clear H
      have H := H1
      clear H1
      by_cases c12 : (wrap64 (x6_1 - (rd l0 x14_1))) ≥ 16
      ·rw [if_pos c12] at H
       have c12b0 : decide (16 ≤ (wrap64 (x6_1 - (rd l0 x14_1)))) = true := decide_eq_true c12
       clear c12; replace H := ifS H; obtain ⟨c13, H⟩ := H; have LMc13 := Aside0.mk c13; clear c13
       obtain ⟨y221, hy_⟩ : ∃ y_ : List Int, y_ = (x5_1 ++ [2]) := ⟨_, rfl⟩
       replace H : (spec_PlayAll.l0 k1 x4_1 y221 x6_1 l0 (l0.length : Int) (wrap64 (x14_1 + 1))) = some (r1, r2) := yH
       have Ny221 := ak hy_; clear hy_
       have H' := Aside0.mk H
       clear H
       have p216 : 0 ≤ (x14_1 : Int) := da
       have q216 : x14_1 < (l0.length : Int) := da
       obtain ⟨ad216, e216, hx216_0⟩ := Kd.at_int HR0.out x14_1 p216 q216
       cases e216
       replace hx216_0 := (HB.out.cell (World.block_lt_of_cell? w _ hx216_0)).trans hx216_0
       replace p216 := eq_true p216; replace q216 := eq_true q216
       obtain ⟨Ao14, co14, eo14⟩ := Kd.R_slice HO_4.out
       subst eo14
       go_wp2_with (first | ((with_reducible refine gate_callee (f := 147) rfl ?_); refine goesLa (some 32) rfl Try.func147 #[.slice Ao14 x4_1.length co14, .int .i64 (rd l0 x14_1)] rfl ?_; (with_reducible refine (spec_l1Has.calls k1 _ _ x4_1 (rd l0 x14_1) false _ ?side1 ?side2 A7.out).mono ?_); (case side1 => exact cd (Kd.R_reads' HO_4.out).2.2); (case side2 => exact (Kd.R_reads' HO_4.out).2.1); rintro e w' ⟨rfl, ⟨nd, rfl⟩⟩; refine ⟨_, rfl, ?_⟩) | ((with_reducible refine gate_builtin (b := .append) (xs := #[.tmp 41, .tmp 42]) rfl ?_); at_builtin; refine Kd.R_append (Kd.int .i64) (w0 := w) w.heap.size rfl (.tmp 41) (.tmp 42) 51 3 (.int .i64 0) 8 rfl Try.underlying51 info3 rfl (by decide) (by omega) u5 x5_1 2 [.int .i64 2] (fun k_ => some k_ ≠ (.slice Ao14 x4_1.length co14 : Value).ownBlock) (fun _ => False) rfl rfl ?aP (fun _ hk => hk.elim) ?aF ?aO ?aB ?aS ?aL ?_; (case aP => exact rfl); (case aB => exact (belowd HB)); (case aF => exact (fun k_ hk => Kd.fresh' (Kd.R_lt (rdl HO_4)) k_ hk)); (case aO => exact (rdl HO_5)); (case aS => exact (below_size (belowd HB))); (case aL => have := LMc13.out; omega); intro v222 w15 ho hb hg hat; rw [← Ny221.out] at ho; replace HO_4 := ak (Kd.R_after (ok := (fun _ => True)) (by (with_reducible repeat (first | apply Kd.R_alloc | apply Kd.R_drewN | apply Kd.R_drew)); exact Kd.R_mono HO_4.out (fun _ hk => ⟨trivial, hk⟩)) hg hat); replace HB := ak (hb); have HO223 := ak (ho); clear HO_5; clear ho hb hg hat))
       go_roundg k1
       case measure => have := HK1.out; omega
       case rel => exact ⟨(x4_1), (y221), (x6_1), (wrap64 (x14_1 + 1)), er, er, H', ⟨by have := HK1.out; omega⟩, ⟨by (with_reducible repeat (first | apply Kd.R_alloc | apply Kd.R_drewN | apply Kd.R_drew)); exact Kd.R_mono HO_4.out (fun _ hk => hk.2)⟩, ⟨rdl HO223⟩, ⟨belowd HB⟩⟩
      ·rw [if_neg c12] at H
       have c12b0 : decide (16 ≤ (wrap64 (x6_1 - (rd l0 x14_1)))) = false := decide_eq_false c12
       clear c12; replace H := ifS H; obtain ⟨c16, H⟩ := H; have LMc16 := Aside0.mk c16; clear c16
       obtain ⟨y224, hy_⟩ : ∃ y_ : List Int, y_ = (x5_1 ++ [0]) := ⟨_, rfl⟩
       replace H : (if x4_1.length < 17592186044416 then ((some (x4_1 ++ [rd l0 x14_1] : List Int)).bind fun y227 => (if (rd l0 x14_1) > x6_1 then (spec_PlayAll.l0 k1 y227 y224 (rd l0 x14_1) l0 (l0.length : Int) (wrap64 (x14_1 + 1))) else (spec_PlayAll.l0 k1 y227 y224 x6_1 l0 (l0.length : Int) (wrap64 (x14_1 + 1))))) else (none)) = some (r1, r2) := yH
       have Ny224 := ak hy_; clear hy_; replace H := ifS H; obtain ⟨c17, H⟩ := H; have LMc17 := Aside0.mk c17; clear c17
       obtain ⟨y227, hy_⟩ : ∃ y_ : List Int, y_ = (x4_1 ++ [rd l0 x14_1]) := ⟨_, rfl⟩
       replace H : (if (rd l0 x14_1) > x6_1 then (spec_PlayAll.l0 k1 y227 y224 (rd l0 x14_1) l0 (l0.length : Int) (wrap64 (x14_1 + 1))) else (spec_PlayAll.l0 k1 y227 y224 x6_1 l0 (l0.length : Int) (wrap64 (x14_1 + 1)))) = some (r1, r2) := yH
       have Ny227 := ak hy_; clear hy_
       by_cases c18 : (rd l0 x14_1) > x6_1
       ·rw [if_pos c18] at H
        have c18b0 : decide (x6_1 < (rd l0 x14_1)) = true := decide_eq_true c18
        clear c18
        have H' := Aside0.mk H
        clear H
        have p216 : 0 ≤ (x14_1 : Int) := da
        have q216 : x14_1 < (l0.length : Int) := da
        obtain ⟨ad216, e216, hx216_0⟩ := Kd.at_int HR0.out x14_1 p216 q216
        cases e216
        replace hx216_0 := (HB.out.cell (World.block_lt_of_cell? w _ hx216_0)).trans hx216_0
        replace p216 := eq_true p216; replace q216 := eq_true q216
        obtain ⟨Ao19, co19, eo19⟩ := Kd.R_slice HO_4.out
        subst eo19
        go_wp2_with (first | ((with_reducible refine gate_callee (f := 147) rfl ?_); refine goesLa (some 32) rfl Try.func147 #[.slice Ao19 x4_1.length co19, .int .i64 (rd l0 x14_1)] rfl ?_; (with_reducible refine (spec_l1Has.calls k1 _ _ x4_1 (rd l0 x14_1) false _ ?side1 ?side2 A7.out).mono ?_); (case side1 => exact cd (Kd.R_reads' HO_4.out).2.2); (case side2 => exact (Kd.R_reads' HO_4.out).2.1); rintro e w' ⟨rfl, ⟨nd, rfl⟩⟩; refine ⟨_, rfl, ?_⟩) | ((with_reducible refine gate_builtin (b := .append) (xs := #[.tmp 18, .tmp 19]) rfl ?_); at_builtin; refine Kd.R_append (Kd.int .i64) (w0 := w) w.heap.size rfl (.tmp 18) (.tmp 19) 51 3 (.int .i64 0) 8 rfl Try.underlying51 info3 rfl (by decide) (by omega) u5 x5_1 0 [.int .i64 0] (fun k_ => some k_ ≠ (.slice Ao19 x4_1.length co19 : Value).ownBlock) (fun _ => False) rfl rfl ?aP (fun _ hk => hk.elim) ?aF ?aO ?aB ?aS ?aL ?_; (case aP => exact rfl); (case aB => exact (belowd HB)); (case aF => exact (fun k_ hk => Kd.fresh' (Kd.R_lt (rdl HO_4)) k_ hk)); (case aO => exact (rdl HO_5)); (case aS => exact (below_size (belowd HB))); (case aL => have := LMc16.out; omega); intro v225 w20 ho hb hg hat; rw [← Ny224.out] at ho; replace HO_4 := ak (Kd.R_after (ok := (fun _ => True)) (by (with_reducible repeat (first | apply Kd.R_alloc | apply Kd.R_drewN | apply Kd.R_drew)); exact Kd.R_mono HO_4.out (fun _ hk => ⟨trivial, hk⟩)) hg hat); replace HB := ak (hb); have HO226 := ak (ho); clear HO_5; clear ho hb hg hat) | ((with_reducible refine gate_builtin (b := .append) (xs := #[.tmp 21, .tmp 23]) rfl ?_); at_builtin; refine Kd.R_append (Kd.int .i64) (w0 := w) w.heap.size rfl (.tmp 21) (.tmp 23) 51 3 (.int .i64 0) 8 rfl Try.underlying51 info3 rfl (by decide) (by omega) (.slice Ao19 x4_1.length co19) x4_1 (rd l0 x14_1) [.int .i64 (rd l0 x14_1)] (fun k_ => some k_ ≠ (v225 : Value).ownBlock) (fun _ => False) rfl rfl ?aP (fun _ hk => hk.elim) ?aF ?aO ?aB ?aS ?aL ?_; (case aP => exact rfl); (case aB => exact (belowd HB)); (case aF => exact (fun k_ hk => Kd.fresh' (Kd.R_lt (rdl HO226)) k_ hk)); (case aO => exact (by (with_reducible repeat (first | apply Kd.R_alloc | apply Kd.R_drewN | apply Kd.R_drew)); exact Kd.R_mono HO_4.out (fun _ hk => hk.2))); (case aS => exact (below_size (belowd HB))); (case aL => have := LMc17.out; omega); intro v228 w21 ho hb hg hat; rw [← Ny227.out] at ho; replace HO226 := ak (Kd.R_after (ok := (fun _ => True)) (by (with_reducible repeat (first | apply Kd.R_alloc | apply Kd.R_drewN | apply Kd.R_drew)); exact Kd.R_mono HO226.out (fun _ hk => ⟨trivial, hk⟩)) hg hat); replace HB := ak (hb); have HO229 := ak (ho); clear HO_4; clear ho hb hg hat))
        go_roundg k1
        case measure => have := HK1.out; omega
        case rel => exact ⟨(y227), (y224), (rd l0 x14_1), (wrap64 (x14_1 + 1)), er, er, H', ⟨by have := HK1.out; omega⟩, ⟨rdl HO229⟩, ⟨by (with_reducible repeat (first | apply Kd.R_alloc | apply Kd.R_drewN | apply Kd.R_drew)); exact Kd.R_mono HO226.out (fun _ hk => hk.2)⟩, ⟨belowd HB⟩⟩
       ·rw [if_neg c18] at H
        have c18b0 : decide (x6_1 < (rd l0 x14_1)) = false := decide_eq_false c18
        clear c18
        have H' := Aside0.mk H
        clear H
        have p216 : 0 ≤ (x14_1 : Int) := da
        have q216 : x14_1 < (l0.length : Int) := da
        obtain ⟨ad216, e216, hx216_0⟩ := Kd.at_int HR0.out x14_1 p216 q216
        cases e216
        replace hx216_0 := (HB.out.cell (World.block_lt_of_cell? w _ hx216_0)).trans hx216_0
        replace p216 := eq_true p216; replace q216 := eq_true q216
        obtain ⟨Ao22, co22, eo22⟩ := Kd.R_slice HO_4.out
        subst eo22
        go_wp2_with (first | ((with_reducible refine gate_callee (f := 147) rfl ?_); refine goesLa (some 32) rfl Try.func147 #[.slice Ao22 x4_1.length co22, .int .i64 (rd l0 x14_1)] rfl ?_; (with_reducible refine (spec_l1Has.calls k1 _ _ x4_1 (rd l0 x14_1) false _ ?side1 ?side2 A7.out).mono ?_); (case side1 => exact cd (Kd.R_reads' HO_4.out).2.2); (case side2 => exact (Kd.R_reads' HO_4.out).2.1); rintro e w' ⟨rfl, ⟨nd, rfl⟩⟩; refine ⟨_, rfl, ?_⟩) | ((with_reducible refine gate_builtin (b := .append) (xs := #[.tmp 18, .tmp 19]) rfl ?_); at_builtin; refine Kd.R_append (Kd.int .i64) (w0 := w) w.heap.size rfl (.tmp 18) (.tmp 19) 51 3 (.int .i64 0) 8 rfl Try.underlying51 info3 rfl (by decide) (by omega) u5 x5_1 0 [.int .i64 0] (fun k_ => some k_ ≠ (.slice Ao22 x4_1.length co22 : Value).ownBlock) (fun _ => False) rfl rfl ?aP (fun _ hk => hk.elim) ?aF ?aO ?aB ?aS ?aL ?_; (case aP => exact rfl); (case aB => exact (belowd HB)); (case aF => exact (fun k_ hk => Kd.fresh' (Kd.R_lt (rdl HO_4)) k_ hk)); (case aO => exact (rdl HO_5)); (case aS => exact (below_size (belowd HB))); (case aL => have := LMc16.out; omega); intro v225 w23 ho hb hg hat; rw [← Ny224.out] at ho; replace HO_4 := ak (Kd.R_after (ok := (fun _ => True)) (by (with_reducible repeat (first | apply Kd.R_alloc | apply Kd.R_drewN | apply Kd.R_drew)); exact Kd.R_mono HO_4.out (fun _ hk => ⟨trivial, hk⟩)) hg hat); replace HB := ak (hb); have HO226 := ak (ho); clear HO_5; clear ho hb hg hat) | ((with_reducible refine gate_builtin (b := .append) (xs := #[.tmp 21, .tmp 23]) rfl ?_); at_builtin; refine Kd.R_append (Kd.int .i64) (w0 := w) w.heap.size rfl (.tmp 21) (.tmp 23) 51 3 (.int .i64 0) 8 rfl Try.underlying51 info3 rfl (by decide) (by omega) (.slice Ao22 x4_1.length co22) x4_1 (rd l0 x14_1) [.int .i64 (rd l0 x14_1)] (fun k_ => some k_ ≠ (v225 : Value).ownBlock) (fun _ => False) rfl rfl ?aP (fun _ hk => hk.elim) ?aF ?aO ?aB ?aS ?aL ?_; (case aP => exact rfl); (case aB => exact (belowd HB)); (case aF => exact (fun k_ hk => Kd.fresh' (Kd.R_lt (rdl HO226)) k_ hk)); (case aO => exact (by (with_reducible repeat (first | apply Kd.R_alloc | apply Kd.R_drewN | apply Kd.R_drew)); exact Kd.R_mono HO_4.out (fun _ hk => hk.2))); (case aS => exact (below_size (belowd HB))); (case aL => have := LMc17.out; omega); intro v228 w24 ho hb hg hat; rw [← Ny227.out] at ho; replace HO226 := ak (Kd.R_after (ok := (fun _ => True)) (by (with_reducible repeat (first | apply Kd.R_alloc | apply Kd.R_drewN | apply Kd.R_drew)); exact Kd.R_mono HO226.out (fun _ hk => ⟨trivial, hk⟩)) hg hat); replace HB := ak (hb); have HO229 := ak (ho); clear HO_4; clear ho hb hg hat))
        go_roundg k1
        case measure => have := HK1.out; omega
        case rel => exact ⟨(y227), (y224), (x6_1), (wrap64 (x14_1 + 1)), er, er, H', ⟨by have := HK1.out; omega⟩, ⟨rdl HO229⟩, ⟨by (with_reducible repeat (first | apply Kd.R_alloc | apply Kd.R_drewN | apply Kd.R_drew)); exact Kd.R_mono HO226.out (fun _ hk => hk.2)⟩, ⟨belowd HB⟩⟩
    ·rw [if_neg c4] at H
     have c4b0 : decide (x14_1 < (l0.length : Int)) = false := decide_eq_false c4
     clear c4
     simp only [Option.some.injEq, Prod.mk.injEq] at H
     obtain ⟨rfl, rfl⟩ := H; go_wp2
     go_ret2
     exact ⟨_, er2, by (with_reducible repeat (first | apply Kd.R_alloc | apply Kd.R_drewN | apply Kd.R_drew)); exact Kd.R_mono HO_5.out (fun _ hk => trivial), belowd HB⟩
 ·replace c3 := Bool.eq_false_iff.mpr c3
  subst c3
  have H1 : (some (([] : List Int), false)) = some (r1, r2) := by rw [if_neg (show ¬ (false = true) by decide)] at H; exact H
  clear H
  have H := H1
  clear H1
  simp only [Option.some.injEq, Prod.mk.injEq] at H
  obtain ⟨rfl, rfl⟩ := H
  go_enter Try.func86, Try.ntmps86
  go_wp2_with (first | ((with_reducible refine gate_callee (f := 145) rfl ?_); refine goesLa (some 10) rfl Try.func145 #[.slice A0 l0.length c0] rfl ?_; (with_reducible refine (spec_l16Numbers.calls k _ _ l0 false _ ?side1 ?side2 A2.out).mono ?_); (case side1 => exact cd HR0.out); (case side2 => exact HC0.out); rintro e w' ⟨rfl, ⟨nd, rfl⟩⟩; refine ⟨_, rfl, ?_⟩))
  go_ret2
  exact ⟨_, er2, by first | exact Kd.R_nil _ _ _ _ _ | exact Kd.N_nil _ _ _ _ _ | exact Kd.V_nil _ _ _ _ _ | exact Kd.Q_nil _ _ _ _ _ | exact Kd.S_nil _ _ _ _ _, belowd HB⟩

/-! ### spec_l1Cur_window: function 122 -/
def spec_l1Cur_window.f (k : Nat) (s0_0 : List Int) (s0_1 : Int) (s0_2 : Int) : Option (Int × Int × Int × Int) := (spec_l1Cur_numbers.f k s0_0 s0_1 s0_2).bind fun bt231 => ((spec_PlayNumbers.f k bt231.1).bind fun bt236 => ((spec_l1Cur_pick.f s0_0 bt231.2.1 bt231.2.2 20).bind fun bt243 => (if bt243.1 = 0 then ((spec_l1Cur_among.f s0_0 bt243.2.1 bt243.2.2 (([(-1), 0, 1, 65535, 65536] : List Int))).bind fun bt249 => (some (bt236.2.1, bt249.1, bt249.2.1, bt249.2.2))) else (if bt243.1 = 1 then ((spec_l1Cur_among.f s0_0 bt243.2.1 bt243.2.2 (([(-1), 0, 3, 100000, 100001] : List Int))).bind fun bt255 => (some (bt255.1, bt236.2.2.1, bt255.2.1, bt255.2.2))) else (some (bt236.2.1, bt236.2.2.1, bt243.2.1, bt243.2.2))))))
theorem spec_l1Cur_window.mono : ∀ a0 a1 a2 k, LeO (spec_l1Cur_window.f k a0 a1 a2) (spec_l1Cur_window.f (k + 1) a0 a1 a2) := by
 intro a0 a1 a2 k
 unfold spec_l1Cur_window.f
 repeat' (first | (with_reducible first | exact spec_PlayNumbers.mono _ _ | exact spec_l1Cur_numbers.mono _ _ _ _ | exact LeO.refl _ | exact LeO.none _ | refine LeO.ite ?_ ?_ | refine LeO.bind ?_ (fun _ => ?_)) | exact spec_PlayNumbers.mono _ _ | exact spec_l1Cur_numbers.mono _ _ _ _ | exact LeO.none _ | refine LeO.ite ?_ ?_ | refine LeO.bind ?_ (fun _ => ?_))
set_option maxHeartbeats 8000000 in
set_option maxRecDepth 100000 in
theorem spec_l1Cur_window.calls (k : Nat) (g : Nat) (s0_0 : List Int) (s0_1 : Int) (s0_2 : Int) (r1 : Int) (r2 : Int) (r3 : Int) (r4 : Int) (w0 w : World) (hI : IsS147 w0 w g s0_0 s0_1 s0_2) (hB : Below w0.heap.size w0 w) (h : spec_l1Cur_window.f k s0_0 s0_1 s0_2 = some (r1, r2, r3, r4)) :
  Calls Try.prog 122 #[.pointer (some ⟨g, 0, none⟩)] w fun e w' => e = .returned (.agg #[.int .i64 r1, .int .i64 r2]) ∧ IsS147 w0 w' g s0_0 r3 r4 ∧ Below w0.heap.size w0 w' ∧ KeepBut w w' g none := by
 have hu80 := Try.underlying80
 have HI0 := Aside0.mk hI
 have HK := Aside0.mk (KeepBut.refl w g none)
 have HL := Aside0.mk hB.size
 clear hI
 have HW0 := Aside0.mk hB.size
 have HB := Aside0.mk hB; clear hB
 have H : ((spec_l1Cur_numbers.f k s0_0 s0_1 s0_2).bind fun bt231 => ((spec_PlayNumbers.f k bt231.1).bind fun bt236 => ((spec_l1Cur_pick.f s0_0 bt231.2.1 bt231.2.2 20).bind fun bt243 => (if bt243.1 = 0 then ((spec_l1Cur_among.f s0_0 bt243.2.1 bt243.2.2 (([(-1), 0, 1, 65535, 65536] : List Int))).bind fun bt249 => (some (bt236.2.1, bt249.1, bt249.2.1, bt249.2.2))) else (if bt243.1 = 1 then ((spec_l1Cur_among.f s0_0 bt243.2.1 bt243.2.2 (([(-1), 0, 3, 100000, 100001] : List Int))).bind fun bt255 => (some (bt255.1, bt236.2.2.1, bt255.2.1, bt255.2.2))) else (some (bt236.2.1, bt236.2.2.1, bt243.2.1, bt243.2.2))))))) = some (r1, r2, r3, r4) := h
 clear h; replace H := bS H; obtain ⟨⟨t231, t234, t235⟩, A2, H⟩ := H
 replace H : ((spec_PlayNumbers.f k t231).bind fun bt236 => ((spec_l1Cur_pick.f s0_0 t234 t235 20).bind fun bt243 => (if bt243.1 = 0 then ((spec_l1Cur_among.f s0_0 bt243.2.1 bt243.2.2 (([(-1), 0, 1, 65535, 65536] : List Int))).bind fun bt249 => (some (bt236.2.1, bt249.1, bt249.2.1, bt249.2.2))) else (if bt243.1 = 1 then ((spec_l1Cur_among.f s0_0 bt243.2.1 bt243.2.2 (([(-1), 0, 3, 100000, 100001] : List Int))).bind fun bt255 => (some (bt255.1, bt236.2.2.1, bt255.2.1, bt255.2.2))) else (some (bt236.2.1, bt236.2.2.1, bt243.2.1, bt243.2.2)))))) = some (r1, r2, r3, r4) := H
 replace H := bS H; obtain ⟨⟨t236, t239, t240, t241⟩, A3, H⟩ := H
 replace H : ((spec_l1Cur_pick.f s0_0 t234 t235 20).bind fun bt243 => (if bt243.1 = 0 then ((spec_l1Cur_among.f s0_0 bt243.2.1 bt243.2.2 (([(-1), 0, 1, 65535, 65536] : List Int))).bind fun bt249 => (some (t239, bt249.1, bt249.2.1, bt249.2.2))) else (if bt243.1 = 1 then ((spec_l1Cur_among.f s0_0 bt243.2.1 bt243.2.2 (([(-1), 0, 3, 100000, 100001] : List Int))).bind fun bt255 => (some (bt255.1, t240, bt255.2.1, bt255.2.2))) else (some (t239, t240, bt243.2.1, bt243.2.2))))) = some (r1, r2, r3, r4) := H
 replace H := bS H; obtain ⟨⟨t243, t244, t245⟩, A4, H⟩ := H
 replace H : (if t243 = 0 then ((spec_l1Cur_among.f s0_0 t244 t245 (([(-1), 0, 1, 65535, 65536] : List Int))).bind fun bt249 => (some (t239, bt249.1, bt249.2.1, bt249.2.2))) else (if t243 = 1 then ((spec_l1Cur_among.f s0_0 t244 t245 (([(-1), 0, 3, 100000, 100001] : List Int))).bind fun bt255 => (some (bt255.1, t240, bt255.2.1, bt255.2.2))) else (some (t239, t240, t244, t245)))) = some (r1, r2, r3, r4) := H
 by_cases c5 : t243 = 0
 ·rw [if_pos c5] at H
  have c5b0 : (t243 == 0) = true := beq_iff_eq.mpr c5
  have c5b1 : (t243 != 0) = false := bne_eq_false_iff_eq.mpr c5
  clear c5
  obtain ⟨y246, hy_⟩ : ∃ y_ : List Int, y_ = (([(-1), 0, 1, 65535, 65536] : List Int)) := ⟨_, rfl⟩
  replace H : ((spec_l1Cur_among.f s0_0 t244 t245 y246).bind fun bt249 => (some (t239, bt249.1, bt249.2.1, bt249.2.2))) = some (r1, r2, r3, r4) := yH
  have Ny246 := ak hy_; clear hy_; replace H := bS H; obtain ⟨⟨t249, t250, t251⟩, A6, H⟩ := H
  replace H : (some (t239, t249, t250, t251)) = some (r1, r2, r3, r4) := H
  simp only [Option.some.injEq, Prod.mk.injEq] at H
  obtain ⟨rfl, rfl, rfl, rfl⟩ := H
  go_enter Try.func122, Try.ntmps122
  go_wp2_with (first | ((with_reducible refine gate_dst (N := 2) rfl ?_); refine boxev 2 #[.int .i64 0, .int .i64 0] 80 ?_; intro gb230 hg w7 hbox hb; replace HB := ak (below_step (by repeat (first | (with_reducible first | exact HB.out | apply below_alloc | apply pw_below_drewN | apply below_drew1 | refine below_set ?_ (IsS147.ge HI0.out)) | exact HB.out)) hb); have BK230 := ak (hbox); have GW230 := ak ((by rw [hg]; exact (keep_size (w := w) (g := g) (row := none) (by repeat (first | (with_reducible first | exact HK.out | apply KeepBut.set_ | apply keep_drewN | apply keep_drew | apply keep_alloc) | exact HK.out))) : w.heap.size ≤ gb230)); have GE230 := ak ((Nat.le_trans HW0.out (by rw [hg]; exact (keep_size (w := w) (g := g) (row := none) (by repeat (first | (with_reducible first | exact HK.out | apply KeepBut.set_ | apply keep_drewN | apply keep_drew | apply keep_alloc) | exact HK.out))) : w.heap.size ≤ gb230) : w0.heap.size ≤ gb230)); replace HK := ak (KeepBut.trans (by repeat (first | (with_reducible first | exact HK.out | apply KeepBut.set_ | apply keep_drewN | apply keep_drew | apply keep_alloc) | exact HK.out)) (KeepBut.of_below hb g none) (.inl rfl)); have NB0_230 := ak ((by rw [hg]; exact Nat.ne_of_lt (IsS147.lt (show IsS147 w0 _ g s0_0 s0_1 s0_2 from by repeat (first | (with_reducible first | exact HI0.out | apply IsS147.alloc | apply IsS147.drewN | apply IsS147.drew | apply IsS147.set_1 | apply IsS147.set_2) | exact HI0.out))) : g ≠ gb230)); have NB230_0 := ak ((by rw [hg]; exact Nat.ne_of_gt (IsS147.lt (show IsS147 w0 _ g s0_0 s0_1 s0_2 from by repeat (first | (with_reducible first | exact HI0.out | apply IsS147.alloc | apply IsS147.drewN | apply IsS147.drew | apply IsS147.set_1 | apply IsS147.set_2) | exact HI0.out))) : gb230 ≠ g)); replace HI0 := ak (IsS147.below (by repeat (first | (with_reducible first | exact HI0.out | apply IsS147.alloc | apply IsS147.drewN | apply IsS147.drew | apply IsS147.set_1 | apply IsS147.set_2) | exact HI0.out)) hb); clear hb hbox hg) | ((with_reducible refine gate_callee (f := 142) rfl ?_); refine goesLa (some 8) rfl Try.func142 #[.pointer (some ⟨g, 0, none⟩)] rfl ?_; (with_reducible refine (spec_l1Cur_numbers.calls k g s0_0 s0_1 s0_2 t231 t234 t235 w0 _ ?side1 ?side2 A2.out).mono ?_); (case side1 => repeat (first | (with_reducible first | exact HI0.out | apply IsS147.alloc | apply IsS147.drewN | apply IsS147.drew | apply IsS147.set_1 | apply IsS147.set_2 | refine IsS147.far ?_ NB0_230.out _) | exact HI0.out)); (case side2 => repeat (first | (with_reducible first | exact HB.out | apply below_alloc | apply pw_below_drewN | apply below_drew1 | refine below_set ?_ (IsS147.ge HI0.out) | refine below_set ?_ GE230.out) | exact HB.out)); rintro e w8 ⟨v232, rfl, ho0, hi, hb, hk⟩; refine ⟨_, rfl, ?_⟩; replace BK230 := ak (KeepBut.blk hk (g' := gb230) (blkd BK230) NB230_0.out (by simp)); have HO233 := ak (Kd.R_lower ho0 (keep_size (w := w) (g := g) (row := none) (by repeat (first | (with_reducible first | exact HK.out | apply KeepBut.set_ | apply keep_drewN | apply keep_drew | apply keep_alloc | refine keep_far ?_ GW230.out _) | exact HK.out)))); replace HK := ak (KeepBut.trans (by repeat (first | (with_reducible first | exact HK.out | apply KeepBut.set_ | apply keep_drewN | apply keep_drew | apply keep_alloc | refine keep_far ?_ GW230.out _) | exact HK.out)) hk (.inl rfl)); replace HB := ak (hb); replace HI0 := ak (hi); (try clear hb); (try clear hk); (try clear hi); (try clear ho0); obtain ⟨Ao9, co9, eo9⟩ := Kd.R_slice HO233.out; subst eo9) | ((with_reducible refine gate_callee (f := 84) rfl ?_); refine goesLa (some 9) rfl Try.func84 #[.slice Ao9 t231.length co9] rfl ?_; (with_reducible refine (spec_PlayNumbers.calls k _ _ t231 t236 t239 t240 t241 _ ?side1 ?side2 A3.out).mono ?_); (case side1 => exact cd (Kd.R_reads' HO233.out).2.2); (case side2 => exact (Kd.R_reads' HO233.out).2.1); rintro e w10 ⟨v237, rfl, ho0, hb⟩; refine ⟨_, rfl, ?_⟩; have HO238 := ak (Kd.R_lower (Kd.R_new' ho0 (Kd.R_lt (rdl HO233))) (keep_size (w := w) (g := g) (row := none) (by repeat (first | (with_reducible first | exact HK.out | apply KeepBut.set_ | apply keep_drewN | apply keep_drew | apply keep_alloc | refine keep_far ?_ GW230.out _) | exact HK.out)))); replace HO233 := ak (Kd.R_elder' (rdl HO233) (Kd.R_base ho0) hb); replace BK230 := ak (blk_below (blkd BK230) hb); replace HK := ak (KeepBut.trans (by repeat (first | (with_reducible first | exact HK.out | apply KeepBut.set_ | apply keep_drewN | apply keep_drew | apply keep_alloc | refine keep_far ?_ GW230.out _) | exact HK.out)) (KeepBut.of_below hb g none) (.inl rfl)); replace HB := ak (below_step (by repeat (first | (with_reducible first | exact HB.out | apply below_alloc | apply pw_below_drewN | apply below_drew1 | refine below_set ?_ (IsS147.ge HI0.out) | refine below_set ?_ GE230.out) | exact HB.out)) hb); replace HI0 := ak (IsS147.below (by repeat (first | (with_reducible first | exact HI0.out | apply IsS147.alloc | apply IsS147.drewN | apply IsS147.drew | apply IsS147.set_1 | apply IsS147.set_2 | refine IsS147.far ?_ NB0_230.out _) | exact HI0.out)) hb); (try clear hb); (try clear ho0)) | ((with_reducible refine gate_dst (N := 4) rfl ?_); refine boxev 4 #[.int .i64 0, .int .i64 0] 80 ?_; intro gb242 hg w11 hbox hb; replace HO233 := ak (Kd.R_below (rdl HO233) hb); replace HO238 := ak (Kd.R_below (rdl HO238) hb); replace HB := ak (below_step (by repeat (first | (with_reducible first | exact HB.out | apply below_alloc | apply pw_below_drewN | apply below_drew1 | refine below_set ?_ (IsS147.ge HI0.out) | refine below_set ?_ GE230.out) | exact HB.out)) hb); have BK242 := ak (hbox); have GW242 := ak ((by rw [hg]; exact (keep_size (w := w) (g := g) (row := none) (by repeat (first | (with_reducible first | exact HK.out | apply KeepBut.set_ | apply keep_drewN | apply keep_drew | apply keep_alloc | refine keep_far ?_ GW230.out _) | exact HK.out))) : w.heap.size ≤ gb242)); have GE242 := ak ((Nat.le_trans HW0.out (by rw [hg]; exact (keep_size (w := w) (g := g) (row := none) (by repeat (first | (with_reducible first | exact HK.out | apply KeepBut.set_ | apply keep_drewN | apply keep_drew | apply keep_alloc | refine keep_far ?_ GW230.out _) | exact HK.out))) : w.heap.size ≤ gb242) : w0.heap.size ≤ gb242)); replace HK := ak (KeepBut.trans (by repeat (first | (with_reducible first | exact HK.out | apply KeepBut.set_ | apply keep_drewN | apply keep_drew | apply keep_alloc | refine keep_far ?_ GW230.out _) | exact HK.out)) (KeepBut.of_below hb g none) (.inl rfl)); have NB230_242 := ak ((by rw [hg]; exact Nat.ne_of_lt (blk_lt (blkd BK230)) : gb230 ≠ gb242)); have NB242_230 := ak ((by rw [hg]; exact Nat.ne_of_gt (blk_lt (blkd BK230)) : gb242 ≠ gb230)); replace BK230 := ak (blk_below (blkd BK230) hb); have NB0_242 := ak ((by rw [hg]; exact Nat.ne_of_lt (IsS147.lt (show IsS147 w0 _ g s0_0 t234 t235 from by repeat (first | (with_reducible first | exact HI0.out | apply IsS147.alloc | apply IsS147.drewN | apply IsS147.drew | apply IsS147.set_1 | apply IsS147.set_2 | refine IsS147.far ?_ NB0_230.out _) | exact HI0.out))) : g ≠ gb242)); have NB242_0 := ak ((by rw [hg]; exact Nat.ne_of_gt (IsS147.lt (show IsS147 w0 _ g s0_0 t234 t235 from by repeat (first | (with_reducible first | exact HI0.out | apply IsS147.alloc | apply IsS147.drewN | apply IsS147.drew | apply IsS147.set_1 | apply IsS147.set_2 | refine IsS147.far ?_ NB0_230.out _) | exact HI0.out))) : gb242 ≠ g)); replace HI0 := ak (IsS147.below (by repeat (first | (with_reducible first | exact HI0.out | apply IsS147.alloc | apply IsS147.drewN | apply IsS147.drew | apply IsS147.set_1 | apply IsS147.set_2 | refine IsS147.far ?_ NB0_230.out _) | exact HI0.out)) hb); clear hb hbox hg; have hnb12 := NB242_230.out; have hnc12 := NB230_242.out; have hnb13 := NB242_0.out; have hnc13 := NB0_242.out; obtain ⟨hcz14_0, hcz14_1, hfz14_0, hfz14_1⟩ := box2 BK242) | ((with_reducible refine gate_callee (f := 118) rfl ?_); refine goesLa (some 14) rfl Try.func118 #[.pointer (some ⟨g, 0, none⟩), .int .i64 20] rfl ?_; (with_reducible refine (spec_l1Cur_pick.calls g s0_0 t234 t235 20 t243 t244 t245 w0 _ ?side1 ?side2 A4.out).mono ?_); (case side1 => repeat (first | (with_reducible first | exact HI0.out | apply IsS147.alloc | apply IsS147.drewN | apply IsS147.drew | apply IsS147.set_1 | apply IsS147.set_2 | refine IsS147.far ?_ NB0_230.out _ | refine IsS147.far ?_ NB0_242.out _) | exact HI0.out)); (case side2 => repeat (first | (with_reducible first | exact HB.out | apply below_alloc | apply pw_below_drewN | apply below_drew1 | refine below_set ?_ (IsS147.ge HI0.out) | refine below_set ?_ GE230.out | refine below_set ?_ GE242.out) | exact HB.out)); rintro e w15 ⟨rfl, hi, hb, hk⟩; refine ⟨_, rfl, ?_⟩; replace BK230 := ak (KeepBut.blk hk (g' := gb230) (o := .cells #[.int .i64 0, .int .i64 0] 80 (0, 0)) (by (with_reducible repeat (first | refine blk_drewN ?_ _ | refine blk_drew ?_ | refine blk_alloc ?_ _)); refine blk_far ?_ NB230_242.out _; (with_reducible repeat (first | refine blk_drewN ?_ _ | refine blk_drew ?_ | refine blk_alloc ?_ _)); refine blk_far ?_ NB230_242.out _; (with_reducible repeat (first | refine blk_drewN ?_ _ | refine blk_drew ?_ | refine blk_alloc ?_ _)); exact BK230.out) NB230_0.out (by simp)); replace HO233 := ak (Kd.R_mono (Kd.R_keep (IsS147.apart (show IsS147 w0 _ g s0_0 t234 t235 from by repeat (first | (with_reducible first | exact HI0.out | apply IsS147.alloc | apply IsS147.drewN | apply IsS147.drew | apply IsS147.set_1 | apply IsS147.set_2 | refine IsS147.far ?_ NB0_230.out _ | refine IsS147.far ?_ NB0_242.out _) | exact HI0.out)) (by (with_reducible repeat (first | apply Kd.R_alloc | apply Kd.R_drewN | apply Kd.R_drew)); exact (Kd.R_mono (farsR (Kd.R_types HO233.out BK242.out (by decide))) (fun _ h_ => h_.1))) (by decide)) hk (fun _ h => h.2)) (fun _ h => h.1)); replace HO238 := ak (Kd.R_mono (Kd.R_keep (IsS147.apart (show IsS147 w0 _ g s0_0 t234 t235 from by repeat (first | (with_reducible first | exact HI0.out | apply IsS147.alloc | apply IsS147.drewN | apply IsS147.drew | apply IsS147.set_1 | apply IsS147.set_2 | refine IsS147.far ?_ NB0_230.out _ | refine IsS147.far ?_ NB0_242.out _) | exact HI0.out)) (by (with_reducible repeat (first | apply Kd.R_alloc | apply Kd.R_drewN | apply Kd.R_drew)); exact (Kd.R_mono (farsR (Kd.R_types HO238.out BK242.out (by decide))) (fun _ h_ => h_.1))) (by decide)) hk (fun _ h => h.2)) (fun _ h => h.1)); replace BK242 := ak (KeepBut.blk hk (g' := gb242) (o := .cells #[.int .i64 t239, .int .i64 t240] 80 (0, 0)) (by (with_reducible repeat (first | refine blk_drewN ?_ _ | refine blk_drew ?_ | refine blk_alloc ?_ _)); refine blk_put (cs := #[.int .i64 t239, .int .i64 0]) ?_ 1 _ rfl; (with_reducible repeat (first | refine blk_drewN ?_ _ | refine blk_drew ?_ | refine blk_alloc ?_ _)); refine blk_put (cs := #[.int .i64 0, .int .i64 0]) ?_ 0 _ rfl; (with_reducible repeat (first | refine blk_drewN ?_ _ | refine blk_drew ?_ | refine blk_alloc ?_ _)); exact BK242.out) NB242_0.out (by simp)); replace HK := ak (KeepBut.trans (by repeat (first | (with_reducible first | exact HK.out | apply KeepBut.set_ | apply keep_drewN | apply keep_drew | apply keep_alloc | refine keep_far ?_ GW230.out _ | refine keep_far ?_ GW242.out _) | exact HK.out)) hk (.inl rfl)); replace HB := ak (hb); replace HI0 := ak (hi); (try clear hb); (try clear hk); (try clear hi)) | ((with_reducible refine gate_dst (N := 18) rfl ?_); refine Kd.R_lit (Kd.int .i64) _ 3 ?hg (N := 18) ?hd (xs := ([(-1), 0, 1, 65535, 65536] : List Int)) (inner := [.int .i64 (-1), .int .i64 0, .int .i64 1, .int .i64 65535, .int .i64 65536]) (ok := fun _ => True) (okp := fun _ => True) ?hr ?hp (fun _ hk => hk) trivial (Below.refl _ _) (Nat.le_refl _) (by simp) ?_; (case hd => rfl); (case hg => rfl); (case hr => first | (go_simp; done) | (go_simp; rfl)); (case hp => exact (Reps.one (show Kd.M (Kd.int .i64) _ _ _ (-1) [.int .i64 (-1)] from rfl) (Reps.one (show Kd.M (Kd.int .i64) _ _ _ 0 [.int .i64 0] from rfl) (Reps.one (show Kd.M (Kd.int .i64) _ _ _ 1 [.int .i64 1] from rfl) (Reps.one (show Kd.M (Kd.int .i64) _ _ _ 65535 [.int .i64 65535] from rfl) (Reps.one (show Kd.M (Kd.int .i64) _ _ _ 65536 [.int .i64 65536] from rfl) (Reps.none _ _))))))); intro v247 w16 ho17 hb hg_ hnew_; clear hg_ hnew_; (first | rw [← Ny246.out] at ho17 | (simp only [Int.reduceToNat] at ho17; rw [← Ny246.out] at ho17)); have HO248 := ak (Kd.R_lower (Kd.R_new' (Kd.R_new' ho17 (Kd.R_lt (rdl HO233))) (Kd.R_lt (rdl HO238))) (keep_size (w := w) (g := g) (row := none) (by repeat (first | (with_reducible first | exact HK.out | apply KeepBut.set_ | apply keep_drewN | apply keep_drew | apply keep_alloc | refine keep_far ?_ GW230.out _ | refine keep_far ?_ GW242.out _) | exact HK.out)))); replace HO233 := ak (Kd.R_elder' (rdl HO233) (Kd.R_base ho17) hb); replace HO238 := ak (Kd.R_elder' (rdl HO238) (Kd.R_base ho17) hb); replace BK230 := ak (blk_below (blkd BK230) hb); replace BK242 := ak (blk_below (blkd BK242) hb); replace HK := ak (KeepBut.trans (by repeat (first | (with_reducible first | exact HK.out | apply KeepBut.set_ | apply keep_drewN | apply keep_drew | apply keep_alloc | refine keep_far ?_ GW230.out _ | refine keep_far ?_ GW242.out _) | exact HK.out)) (KeepBut.of_below hb g none) (.inl rfl)); replace HB := ak (below_step (by repeat (first | (with_reducible first | exact HB.out | apply below_alloc | apply pw_below_drewN | apply below_drew1 | refine below_set ?_ (IsS147.ge HI0.out) | refine below_set ?_ GE230.out | refine below_set ?_ GE242.out) | exact HB.out)) hb); replace HI0 := ak (IsS147.below (by repeat (first | (with_reducible first | exact HI0.out | apply IsS147.alloc | apply IsS147.drewN | apply IsS147.drew | apply IsS147.set_1 | apply IsS147.set_2 | refine IsS147.far ?_ NB0_230.out _ | refine IsS147.far ?_ NB0_242.out _) | exact HI0.out)) hb); clear hb ho17; obtain ⟨Ao18, co18, eo18⟩ := Kd.R_slice HO248.out; subst eo18) | ((with_reducible refine gate_callee (f := 148) rfl ?_); refine goesLa (some 19) rfl Try.func148 #[.pointer (some ⟨g, 0, none⟩), .slice Ao18 y246.length co18] rfl ?_; (with_reducible refine (spec_l1Cur_among.calls g s0_0 t244 t245 _ _ y246 t249 t250 t251 w0 _ ?side1 ?side2 ?side3 ?side4 ?side5 A6.out).mono ?_); (case side1 => repeat (first | (with_reducible first | exact HI0.out | apply IsS147.alloc | apply IsS147.drewN | apply IsS147.drew | apply IsS147.set_1 | apply IsS147.set_2 | refine IsS147.far ?_ NB0_230.out _ | refine IsS147.far ?_ NB0_242.out _) | exact HI0.out)); (case side2 => repeat (first | (with_reducible first | exact HB.out | apply below_alloc | apply pw_below_drewN | apply below_drew1 | refine below_set ?_ (IsS147.ge HI0.out) | refine below_set ?_ GE230.out | refine below_set ?_ GE242.out) | exact HB.out)); (case side3 => exact cd (Kd.R_reads' HO248.out).2.2); (case side4 => exact (Kd.R_reads' HO248.out).2.1); (case side5 => exact far_slice (IsS147.own_ne HI0.out HO248.out (by decide))); rintro e w19 ⟨rfl, hi, hb, hk⟩; refine ⟨_, rfl, ?_⟩; replace BK230 := ak (KeepBut.blk hk (g' := gb230) (blkd BK230) NB230_0.out (by simp)); replace HO233 := ak (Kd.R_mono (Kd.R_keep (IsS147.apart (show IsS147 w0 _ g s0_0 t244 t245 from by repeat (first | (with_reducible first | exact HI0.out | apply IsS147.alloc | apply IsS147.drewN | apply IsS147.drew | apply IsS147.set_1 | apply IsS147.set_2 | refine IsS147.far ?_ NB0_230.out _ | refine IsS147.far ?_ NB0_242.out _) | exact HI0.out)) (rdl HO233) (by decide)) hk (fun _ h => h.2)) (fun _ h => h.1)); replace HO238 := ak (Kd.R_mono (Kd.R_keep (IsS147.apart (show IsS147 w0 _ g s0_0 t244 t245 from by repeat (first | (with_reducible first | exact HI0.out | apply IsS147.alloc | apply IsS147.drewN | apply IsS147.drew | apply IsS147.set_1 | apply IsS147.set_2 | refine IsS147.far ?_ NB0_230.out _ | refine IsS147.far ?_ NB0_242.out _) | exact HI0.out)) (rdl HO238) (by decide)) hk (fun _ h => h.2)) (fun _ h => h.1)); replace BK242 := ak (KeepBut.blk hk (g' := gb242) (blkd BK242) NB242_0.out (by simp)); replace HO248 := ak (Kd.R_mono (Kd.R_keep (IsS147.apart (show IsS147 w0 _ g s0_0 t244 t245 from by repeat (first | (with_reducible first | exact HI0.out | apply IsS147.alloc | apply IsS147.drewN | apply IsS147.drew | apply IsS147.set_1 | apply IsS147.set_2 | refine IsS147.far ?_ NB0_230.out _ | refine IsS147.far ?_ NB0_242.out _) | exact HI0.out)) (rdl HO248) (by decide)) hk (fun _ h => h.2)) (fun _ h => h.1)); replace HK := ak (KeepBut.trans (by repeat (first | (with_reducible first | exact HK.out | apply KeepBut.set_ | apply keep_drewN | apply keep_drew | apply keep_alloc | refine keep_far ?_ GW230.out _ | refine keep_far ?_ GW242.out _) | exact HK.out)) hk (.inl rfl)); replace HB := ak (hb); replace HI0 := ak (hi); (try clear hb); (try clear hk); (try clear hi); obtain ⟨hcz20_0, hcz20_1, hfz20_0, hfz20_1⟩ := box2 BK242; have hnb21 := NB230_0.out; have hnc21 := NB0_230.out; obtain ⟨hcz22_0, hcz22_1, hfz22_0, hfz22_1⟩ := box2 BK230))
  refine bodyPost_ret (results_cell_row rfl _ _ gb230 80 #[.int .i64 t239, .int .i64 t249] (0, 0) _ rfl (by (with_reducible repeat (first | refine blk_drewN ?_ _ | refine blk_drew ?_ | refine blk_alloc ?_ _)); refine blk_put (cs := #[.int .i64 t239, .int .i64 0]) ?_ 1 _ rfl; (with_reducible repeat (first | refine blk_drewN ?_ _ | refine blk_drew ?_ | refine blk_alloc ?_ _)); refine blk_put (cs := #[.int .i64 0, .int .i64 0]) ?_ 0 _ rfl; (with_reducible repeat (first | refine blk_drewN ?_ _ | refine blk_drew ?_ | refine blk_alloc ?_ _)); refine blk_far ?_ NB230_242.out _; (with_reducible repeat (first | refine blk_drewN ?_ _ | refine blk_drew ?_ | refine blk_alloc ?_ _)); exact BK230.out) Try.underlying80 rfl (by kernel_rfl)) rfl ?_
  exact ⟨er2, by repeat (first | (with_reducible first | exact HI0.out | apply IsS147.alloc | apply IsS147.drewN | apply IsS147.drew | apply IsS147.set_1 | apply IsS147.set_2 | refine IsS147.far ?_ NB0_230.out _ | refine IsS147.far ?_ NB0_242.out _) | exact HI0.out), by repeat (first | (with_reducible first | exact HB.out | apply below_alloc | apply pw_below_drewN | apply below_drew1 | refine below_set ?_ (IsS147.ge HI0.out) | refine below_set ?_ GE230.out | refine below_set ?_ GE242.out) | exact HB.out), by repeat (first | (with_reducible first | exact HK.out | apply KeepBut.set_ | apply keep_drewN | apply keep_drew | apply keep_alloc | refine keep_far ?_ GW230.out _ | refine keep_far ?_ GW242.out _) | exact HK.out)⟩
 ·rw [if_neg c5] at H
  have c5b0 : (t243 == 0) = false := beq_eq_false_iff_ne.mpr c5
  have c5b1 : (t243 != 0) = true := bne_iff_ne.mpr c5
  by_cases c23 : t243 = 1
  ·rw [if_pos c23] at H
   have c23b0 : (t243 == 1) = true := beq_iff_eq.mpr c23
   have c23b1 : (t243 != 1) = false := bne_eq_false_iff_eq.mpr c23
   clear c23
   obtain ⟨y252, hy_⟩ : ∃ y_ : List Int, y_ = (([(-1), 0, 3, 100000, 100001] : List Int)) := ⟨_, rfl⟩
   replace H : ((spec_l1Cur_among.f s0_0 t244 t245 y252).bind fun bt255 => (some (bt255.1, t240, bt255.2.1, bt255.2.2))) = some (r1, r2, r3, r4) := yH
   have Ny252 := ak hy_; clear hy_; replace H := bS H; obtain ⟨⟨t255, t256, t257⟩, A24, H⟩ := H
   replace H : (some (t255, t240, t256, t257)) = some (r1, r2, r3, r4) := H
   simp only [Option.some.injEq, Prod.mk.injEq] at H
   obtain ⟨rfl, rfl, rfl, rfl⟩ := H
   go_enter Try.func122, Try.ntmps122
   go_wp2_with (first | ((with_reducible refine gate_dst (N := 2) rfl ?_); refine boxev 2 #[.int .i64 0, .int .i64 0] 80 ?_; intro gb230 hg w25 hbox hb; replace HB := ak (below_step (by repeat (first | (with_reducible first | exact HB.out | apply below_alloc | apply pw_below_drewN | apply below_drew1 | refine below_set ?_ (IsS147.ge HI0.out)) | exact HB.out)) hb); have BK230 := ak (hbox); have GW230 := ak ((by rw [hg]; exact (keep_size (w := w) (g := g) (row := none) (by repeat (first | (with_reducible first | exact HK.out | apply KeepBut.set_ | apply keep_drewN | apply keep_drew | apply keep_alloc) | exact HK.out))) : w.heap.size ≤ gb230)); have GE230 := ak ((Nat.le_trans HW0.out (by rw [hg]; exact (keep_size (w := w) (g := g) (row := none) (by repeat (first | (with_reducible first | exact HK.out | apply KeepBut.set_ | apply keep_drewN | apply keep_drew | apply keep_alloc) | exact HK.out))) : w.heap.size ≤ gb230) : w0.heap.size ≤ gb230)); replace HK := ak (KeepBut.trans (by repeat (first | (with_reducible first | exact HK.out | apply KeepBut.set_ | apply keep_drewN | apply keep_drew | apply keep_alloc) | exact HK.out)) (KeepBut.of_below hb g none) (.inl rfl)); have NB0_230 := ak ((by rw [hg]; exact Nat.ne_of_lt (IsS147.lt (show IsS147 w0 _ g s0_0 s0_1 s0_2 from by repeat (first | (with_reducible first | exact HI0.out | apply IsS147.alloc | apply IsS147.drewN | apply IsS147.drew | apply IsS147.set_1 | apply IsS147.set_2) | exact HI0.out))) : g ≠ gb230)); have NB230_0 := ak ((by rw [hg]; exact Nat.ne_of_gt (IsS147.lt (show IsS147 w0 _ g s0_0 s0_1 s0_2 from by repeat (first | (with_reducible first | exact HI0.out | apply IsS147.alloc | apply IsS147.drewN | apply IsS147.drew | apply IsS147.set_1 | apply IsS147.set_2) | exact HI0.out))) : gb230 ≠ g)); replace HI0 := ak (IsS147.below (by repeat (first | (with_reducible first | exact HI0.out | apply IsS147.alloc | apply IsS147.drewN | apply IsS147.drew | apply IsS147.set_1 | apply IsS147.set_2) | exact HI0.out)) hb); clear hb hbox hg) | ((with_reducible refine gate_callee (f := 142) rfl ?_); refine goesLa (some 8) rfl Try.func142 #[.pointer (some ⟨g, 0, none⟩)] rfl ?_; (with_reducible refine (spec_l1Cur_numbers.calls k g s0_0 s0_1 s0_2 t231 t234 t235 w0 _ ?side1 ?side2 A2.out).mono ?_); (case side1 => repeat (first | (with_reducible first | exact HI0.out | apply IsS147.alloc | apply IsS147.drewN | apply IsS147.drew | apply IsS147.set_1 | apply IsS147.set_2 | refine IsS147.far ?_ NB0_230.out _) | exact HI0.out)); (case side2 => repeat (first | (with_reducible first | exact HB.out | apply below_alloc | apply pw_below_drewN | apply below_drew1 | refine below_set ?_ (IsS147.ge HI0.out) | refine below_set ?_ GE230.out) | exact HB.out)); rintro e w26 ⟨v232, rfl, ho0, hi, hb, hk⟩; refine ⟨_, rfl, ?_⟩; replace BK230 := ak (KeepBut.blk hk (g' := gb230) (blkd BK230) NB230_0.out (by simp)); have HO233 := ak (Kd.R_lower ho0 (keep_size (w := w) (g := g) (row := none) (by repeat (first | (with_reducible first | exact HK.out | apply KeepBut.set_ | apply keep_drewN | apply keep_drew | apply keep_alloc | refine keep_far ?_ GW230.out _) | exact HK.out)))); replace HK := ak (KeepBut.trans (by repeat (first | (with_reducible first | exact HK.out | apply KeepBut.set_ | apply keep_drewN | apply keep_drew | apply keep_alloc | refine keep_far ?_ GW230.out _) | exact HK.out)) hk (.inl rfl)); replace HB := ak (hb); replace HI0 := ak (hi); (try clear hb); (try clear hk); (try clear hi); (try clear ho0); obtain ⟨Ao27, co27, eo27⟩ := Kd.R_slice HO233.out; subst eo27) | ((with_reducible refine gate_callee (f := 84) rfl ?_); refine goesLa (some 9) rfl Try.func84 #[.slice Ao27 t231.length co27] rfl ?_; (with_reducible refine (spec_PlayNumbers.calls k _ _ t231 t236 t239 t240 t241 _ ?side1 ?side2 A3.out).mono ?_); (case side1 => exact cd (Kd.R_reads' HO233.out).2.2); (case side2 => exact (Kd.R_reads' HO233.out).2.1); rintro e w28 ⟨v237, rfl, ho0, hb⟩; refine ⟨_, rfl, ?_⟩; have HO238 := ak (Kd.R_lower (Kd.R_new' ho0 (Kd.R_lt (rdl HO233))) (keep_size (w := w) (g := g) (row := none) (by repeat (first | (with_reducible first | exact HK.out | apply KeepBut.set_ | apply keep_drewN | apply keep_drew | apply keep_alloc | refine keep_far ?_ GW230.out _) | exact HK.out)))); replace HO233 := ak (Kd.R_elder' (rdl HO233) (Kd.R_base ho0) hb); replace BK230 := ak (blk_below (blkd BK230) hb); replace HK := ak (KeepBut.trans (by repeat (first | (with_reducible first | exact HK.out | apply KeepBut.set_ | apply keep_drewN | apply keep_drew | apply keep_alloc | refine keep_far ?_ GW230.out _) | exact HK.out)) (KeepBut.of_below hb g none) (.inl rfl)); replace HB := ak (below_step (by repeat (first | (with_reducible first | exact HB.out | apply below_alloc | apply pw_below_drewN | apply below_drew1 | refine below_set ?_ (IsS147.ge HI0.out) | refine below_set ?_ GE230.out) | exact HB.out)) hb); replace HI0 := ak (IsS147.below (by repeat (first | (with_reducible first | exact HI0.out | apply IsS147.alloc | apply IsS147.drewN | apply IsS147.drew | apply IsS147.set_1 | apply IsS147.set_2 | refine IsS147.far ?_ NB0_230.out _) | exact HI0.out)) hb); (try clear hb); (try clear ho0)) | ((with_reducible refine gate_dst (N := 4) rfl ?_); refine boxev 4 #[.int .i64 0, .int .i64 0] 80 ?_; intro gb242 hg w29 hbox hb; replace HO233 := ak (Kd.R_below (rdl HO233) hb); replace HO238 := ak (Kd.R_below (rdl HO238) hb); replace HB := ak (below_step (by repeat (first | (with_reducible first | exact HB.out | apply below_alloc | apply pw_below_drewN | apply below_drew1 | refine below_set ?_ (IsS147.ge HI0.out) | refine below_set ?_ GE230.out) | exact HB.out)) hb); have BK242 := ak (hbox); have GW242 := ak ((by rw [hg]; exact (keep_size (w := w) (g := g) (row := none) (by repeat (first | (with_reducible first | exact HK.out | apply KeepBut.set_ | apply keep_drewN | apply keep_drew | apply keep_alloc | refine keep_far ?_ GW230.out _) | exact HK.out))) : w.heap.size ≤ gb242)); have GE242 := ak ((Nat.le_trans HW0.out (by rw [hg]; exact (keep_size (w := w) (g := g) (row := none) (by repeat (first | (with_reducible first | exact HK.out | apply KeepBut.set_ | apply keep_drewN | apply keep_drew | apply keep_alloc | refine keep_far ?_ GW230.out _) | exact HK.out))) : w.heap.size ≤ gb242) : w0.heap.size ≤ gb242)); replace HK := ak (KeepBut.trans (by repeat (first | (with_reducible first | exact HK.out | apply KeepBut.set_ | apply keep_drewN | apply keep_drew | apply keep_alloc | refine keep_far ?_ GW230.out _) | exact HK.out)) (KeepBut.of_below hb g none) (.inl rfl)); have NB230_242 := ak ((by rw [hg]; exact Nat.ne_of_lt (blk_lt (blkd BK230)) : gb230 ≠ gb242)); have NB242_230 := ak ((by rw [hg]; exact Nat.ne_of_gt (blk_lt (blkd BK230)) : gb242 ≠ gb230)); replace BK230 := ak (blk_below (blkd BK230) hb); have NB0_242 := ak ((by rw [hg]; exact Nat.ne_of_lt (IsS147.lt (show IsS147 w0 _ g s0_0 t234 t235 from by repeat (first | (with_reducible first | exact HI0.out | apply IsS147.alloc | apply IsS147.drewN | apply IsS147.drew | apply IsS147.set_1 | apply IsS147.set_2 | refine IsS147.far ?_ NB0_230.out _) | exact HI0.out))) : g ≠ gb242)); have NB242_0 := ak ((by rw [hg]; exact Nat.ne_of_gt (IsS147.lt (show IsS147 w0 _ g s0_0 t234 t235 from by repeat (first | (with_reducible first | exact HI0.out | apply IsS147.alloc | apply IsS147.drewN | apply IsS147.drew | apply IsS147.set_1 | apply IsS147.set_2 | refine IsS147.far ?_ NB0_230.out _) | exact HI0.out))) : gb242 ≠ g)); replace HI0 := ak (IsS147.below (by repeat (first | (with_reducible first | exact HI0.out | apply IsS147.alloc | apply IsS147.drewN | apply IsS147.drew | apply IsS147.set_1 | apply IsS147.set_2 | refine IsS147.far ?_ NB0_230.out _) | exact HI0.out)) hb); clear hb hbox hg; have hnb30 := NB242_230.out; have hnc30 := NB230_242.out; have hnb31 := NB242_0.out; have hnc31 := NB0_242.out; obtain ⟨hcz32_0, hcz32_1, hfz32_0, hfz32_1⟩ := box2 BK242) | ((with_reducible refine gate_callee (f := 118) rfl ?_); refine goesLa (some 14) rfl Try.func118 #[.pointer (some ⟨g, 0, none⟩), .int .i64 20] rfl ?_; (with_reducible refine (spec_l1Cur_pick.calls g s0_0 t234 t235 20 t243 t244 t245 w0 _ ?side1 ?side2 A4.out).mono ?_); (case side1 => repeat (first | (with_reducible first | exact HI0.out | apply IsS147.alloc | apply IsS147.drewN | apply IsS147.drew | apply IsS147.set_1 | apply IsS147.set_2 | refine IsS147.far ?_ NB0_230.out _ | refine IsS147.far ?_ NB0_242.out _) | exact HI0.out)); (case side2 => repeat (first | (with_reducible first | exact HB.out | apply below_alloc | apply pw_below_drewN | apply below_drew1 | refine below_set ?_ (IsS147.ge HI0.out) | refine below_set ?_ GE230.out | refine below_set ?_ GE242.out) | exact HB.out)); rintro e w33 ⟨rfl, hi, hb, hk⟩; refine ⟨_, rfl, ?_⟩; replace BK230 := ak (KeepBut.blk hk (g' := gb230) (o := .cells #[.int .i64 0, .int .i64 0] 80 (0, 0)) (by (with_reducible repeat (first | refine blk_drewN ?_ _ | refine blk_drew ?_ | refine blk_alloc ?_ _)); refine blk_far ?_ NB230_242.out _; (with_reducible repeat (first | refine blk_drewN ?_ _ | refine blk_drew ?_ | refine blk_alloc ?_ _)); refine blk_far ?_ NB230_242.out _; (with_reducible repeat (first | refine blk_drewN ?_ _ | refine blk_drew ?_ | refine blk_alloc ?_ _)); exact BK230.out) NB230_0.out (by simp)); replace HO233 := ak (Kd.R_mono (Kd.R_keep (IsS147.apart (show IsS147 w0 _ g s0_0 t234 t235 from by repeat (first | (with_reducible first | exact HI0.out | apply IsS147.alloc | apply IsS147.drewN | apply IsS147.drew | apply IsS147.set_1 | apply IsS147.set_2 | refine IsS147.far ?_ NB0_230.out _ | refine IsS147.far ?_ NB0_242.out _) | exact HI0.out)) (by (with_reducible repeat (first | apply Kd.R_alloc | apply Kd.R_drewN | apply Kd.R_drew)); exact (Kd.R_mono (farsR (Kd.R_types HO233.out BK242.out (by decide))) (fun _ h_ => h_.1))) (by decide)) hk (fun _ h => h.2)) (fun _ h => h.1)); replace HO238 := ak (Kd.R_mono (Kd.R_keep (IsS147.apart (show IsS147 w0 _ g s0_0 t234 t235 from by repeat (first | (with_reducible first | exact HI0.out | apply IsS147.alloc | apply IsS147.drewN | apply IsS147.drew | apply IsS147.set_1 | apply IsS147.set_2 | refine IsS147.far ?_ NB0_230.out _ | refine IsS147.far ?_ NB0_242.out _) | exact HI0.out)) (by (with_reducible repeat (first | apply Kd.R_alloc | apply Kd.R_drewN | apply Kd.R_drew)); exact (Kd.R_mono (farsR (Kd.R_types HO238.out BK242.out (by decide))) (fun _ h_ => h_.1))) (by decide)) hk (fun _ h => h.2)) (fun _ h => h.1)); replace BK242 := ak (KeepBut.blk hk (g' := gb242) (o := .cells #[.int .i64 t239, .int .i64 t240] 80 (0, 0)) (by (with_reducible repeat (first | refine blk_drewN ?_ _ | refine blk_drew ?_ | refine blk_alloc ?_ _)); refine blk_put (cs := #[.int .i64 t239, .int .i64 0]) ?_ 1 _ rfl; (with_reducible repeat (first | refine blk_drewN ?_ _ | refine blk_drew ?_ | refine blk_alloc ?_ _)); refine blk_put (cs := #[.int .i64 0, .int .i64 0]) ?_ 0 _ rfl; (with_reducible repeat (first | refine blk_drewN ?_ _ | refine blk_drew ?_ | refine blk_alloc ?_ _)); exact BK242.out) NB242_0.out (by simp)); replace HK := ak (KeepBut.trans (by repeat (first | (with_reducible first | exact HK.out | apply KeepBut.set_ | apply keep_drewN | apply keep_drew | apply keep_alloc | refine keep_far ?_ GW230.out _ | refine keep_far ?_ GW242.out _) | exact HK.out)) hk (.inl rfl)); replace HB := ak (hb); replace HI0 := ak (hi); (try clear hb); (try clear hk); (try clear hi)) | ((with_reducible refine gate_dst (N := 24) rfl ?_); refine Kd.R_lit (Kd.int .i64) _ 3 ?hg (N := 24) ?hd (xs := ([(-1), 0, 3, 100000, 100001] : List Int)) (inner := [.int .i64 (-1), .int .i64 0, .int .i64 3, .int .i64 100000, .int .i64 100001]) (ok := fun _ => True) (okp := fun _ => True) ?hr ?hp (fun _ hk => hk) trivial (Below.refl _ _) (Nat.le_refl _) (by simp) ?_; (case hd => rfl); (case hg => rfl); (case hr => first | (go_simp; done) | (go_simp; rfl)); (case hp => exact (Reps.one (show Kd.M (Kd.int .i64) _ _ _ (-1) [.int .i64 (-1)] from rfl) (Reps.one (show Kd.M (Kd.int .i64) _ _ _ 0 [.int .i64 0] from rfl) (Reps.one (show Kd.M (Kd.int .i64) _ _ _ 3 [.int .i64 3] from rfl) (Reps.one (show Kd.M (Kd.int .i64) _ _ _ 100000 [.int .i64 100000] from rfl) (Reps.one (show Kd.M (Kd.int .i64) _ _ _ 100001 [.int .i64 100001] from rfl) (Reps.none _ _))))))); intro v253 w34 ho35 hb hg_ hnew_; clear hg_ hnew_; (first | rw [← Ny252.out] at ho35 | (simp only [Int.reduceToNat] at ho35; rw [← Ny252.out] at ho35)); have HO254 := ak (Kd.R_lower (Kd.R_new' (Kd.R_new' ho35 (Kd.R_lt (rdl HO233))) (Kd.R_lt (rdl HO238))) (keep_size (w := w) (g := g) (row := none) (by repeat (first | (with_reducible first | exact HK.out | apply KeepBut.set_ | apply keep_drewN | apply keep_drew | apply keep_alloc | refine keep_far ?_ GW230.out _ | refine keep_far ?_ GW242.out _) | exact HK.out)))); replace HO233 := ak (Kd.R_elder' (rdl HO233) (Kd.R_base ho35) hb); replace HO238 := ak (Kd.R_elder' (rdl HO238) (Kd.R_base ho35) hb); replace BK230 := ak (blk_below (blkd BK230) hb); replace BK242 := ak (blk_below (blkd BK242) hb); replace HK := ak (KeepBut.trans (by repeat (first | (with_reducible first | exact HK.out | apply KeepBut.set_ | apply keep_drewN | apply keep_drew | apply keep_alloc | refine keep_far ?_ GW230.out _ | refine keep_far ?_ GW242.out _) | exact HK.out)) (KeepBut.of_below hb g none) (.inl rfl)); replace HB := ak (below_step (by repeat (first | (with_reducible first | exact HB.out | apply below_alloc | apply pw_below_drewN | apply below_drew1 | refine below_set ?_ (IsS147.ge HI0.out) | refine below_set ?_ GE230.out | refine below_set ?_ GE242.out) | exact HB.out)) hb); replace HI0 := ak (IsS147.below (by repeat (first | (with_reducible first | exact HI0.out | apply IsS147.alloc | apply IsS147.drewN | apply IsS147.drew | apply IsS147.set_1 | apply IsS147.set_2 | refine IsS147.far ?_ NB0_230.out _ | refine IsS147.far ?_ NB0_242.out _) | exact HI0.out)) hb); clear hb ho35; obtain ⟨Ao36, co36, eo36⟩ := Kd.R_slice HO254.out; subst eo36) | ((with_reducible refine gate_callee (f := 148) rfl ?_); refine goesLa (some 25) rfl Try.func148 #[.pointer (some ⟨g, 0, none⟩), .slice Ao36 y252.length co36] rfl ?_; (with_reducible refine (spec_l1Cur_among.calls g s0_0 t244 t245 _ _ y252 t255 t256 t257 w0 _ ?side1 ?side2 ?side3 ?side4 ?side5 A24.out).mono ?_); (case side1 => repeat (first | (with_reducible first | exact HI0.out | apply IsS147.alloc | apply IsS147.drewN | apply IsS147.drew | apply IsS147.set_1 | apply IsS147.set_2 | refine IsS147.far ?_ NB0_230.out _ | refine IsS147.far ?_ NB0_242.out _) | exact HI0.out)); (case side2 => repeat (first | (with_reducible first | exact HB.out | apply below_alloc | apply pw_below_drewN | apply below_drew1 | refine below_set ?_ (IsS147.ge HI0.out) | refine below_set ?_ GE230.out | refine below_set ?_ GE242.out) | exact HB.out)); (case side3 => exact cd (Kd.R_reads' HO254.out).2.2); (case side4 => exact (Kd.R_reads' HO254.out).2.1); (case side5 => exact far_slice (IsS147.own_ne HI0.out HO254.out (by decide))); rintro e w37 ⟨rfl, hi, hb, hk⟩; refine ⟨_, rfl, ?_⟩; replace BK230 := ak (KeepBut.blk hk (g' := gb230) (blkd BK230) NB230_0.out (by simp)); replace HO233 := ak (Kd.R_mono (Kd.R_keep (IsS147.apart (show IsS147 w0 _ g s0_0 t244 t245 from by repeat (first | (with_reducible first | exact HI0.out | apply IsS147.alloc | apply IsS147.drewN | apply IsS147.drew | apply IsS147.set_1 | apply IsS147.set_2 | refine IsS147.far ?_ NB0_230.out _ | refine IsS147.far ?_ NB0_242.out _) | exact HI0.out)) (rdl HO233) (by decide)) hk (fun _ h => h.2)) (fun _ h => h.1)); replace HO238 := ak (Kd.R_mono (Kd.R_keep (IsS147.apart (show IsS147 w0 _ g s0_0 t244 t245 from by repeat (first | (with_reducible first | exact HI0.out | apply IsS147.alloc | apply IsS147.drewN | apply IsS147.drew | apply IsS147.set_1 | apply IsS147.set_2 | refine IsS147.far ?_ NB0_230.out _ | refine IsS147.far ?_ NB0_242.out _) | exact HI0.out)) (rdl HO238) (by decide)) hk (fun _ h => h.2)) (fun _ h => h.1)); replace BK242 := ak (KeepBut.blk hk (g' := gb242) (blkd BK242) NB242_0.out (by simp)); replace HO254 := ak (Kd.R_mono (Kd.R_keep (IsS147.apart (show IsS147 w0 _ g s0_0 t244 t245 from by repeat (first | (with_reducible first | exact HI0.out | apply IsS147.alloc | apply IsS147.drewN | apply IsS147.drew | apply IsS147.set_1 | apply IsS147.set_2 | refine IsS147.far ?_ NB0_230.out _ | refine IsS147.far ?_ NB0_242.out _) | exact HI0.out)) (rdl HO254) (by decide)) hk (fun _ h => h.2)) (fun _ h => h.1)); replace HK := ak (KeepBut.trans (by repeat (first | (with_reducible first | exact HK.out | apply KeepBut.set_ | apply keep_drewN | apply keep_drew | apply keep_alloc | refine keep_far ?_ GW230.out _ | refine keep_far ?_ GW242.out _) | exact HK.out)) hk (.inl rfl)); replace HB := ak (hb); replace HI0 := ak (hi); (try clear hb); (try clear hk); (try clear hi); obtain ⟨hcz38_0, hcz38_1, hfz38_0, hfz38_1⟩ := box2 BK242; have hnb39 := NB230_0.out; have hnc39 := NB0_230.out; obtain ⟨hcz40_0, hcz40_1, hfz40_0, hfz40_1⟩ := box2 BK230))
   refine bodyPost_ret (results_cell_row rfl _ _ gb230 80 #[.int .i64 t255, .int .i64 t240] (0, 0) _ rfl (by (with_reducible repeat (first | refine blk_drewN ?_ _ | refine blk_drew ?_ | refine blk_alloc ?_ _)); refine blk_put (cs := #[.int .i64 t255, .int .i64 0]) ?_ 1 _ rfl; (with_reducible repeat (first | refine blk_drewN ?_ _ | refine blk_drew ?_ | refine blk_alloc ?_ _)); refine blk_put (cs := #[.int .i64 0, .int .i64 0]) ?_ 0 _ rfl; (with_reducible repeat (first | refine blk_drewN ?_ _ | refine blk_drew ?_ | refine blk_alloc ?_ _)); refine blk_far ?_ NB230_242.out _; (with_reducible repeat (first | refine blk_drewN ?_ _ | refine blk_drew ?_ | refine blk_alloc ?_ _)); exact BK230.out) Try.underlying80 rfl (by kernel_rfl)) rfl ?_
   exact ⟨er2, by repeat (first | (with_reducible first | exact HI0.out | apply IsS147.alloc | apply IsS147.drewN | apply IsS147.drew | apply IsS147.set_1 | apply IsS147.set_2 | refine IsS147.far ?_ NB0_230.out _ | refine IsS147.far ?_ NB0_242.out _) | exact HI0.out), by repeat (first | (with_reducible first | exact HB.out | apply below_alloc | apply pw_below_drewN | apply below_drew1 | refine below_set ?_ (IsS147.ge HI0.out) | refine below_set ?_ GE230.out | refine below_set ?_ GE242.out) | exact HB.out), by repeat (first | (with_reducible first | exact HK.out | apply KeepBut.set_ | apply keep_drewN | apply keep_drew | apply keep_alloc | refine keep_far ?_ GW230.out _ | refine keep_far ?_ GW242.out _) | exact HK.out)⟩
  ·rw [if_neg c23] at H
   have c23b0 : (t243 == 1) = false := beq_eq_false_iff_ne.mpr c23
   have c23b1 : (t243 != 1) = true := bne_iff_ne.mpr c23
   simp only [Option.some.injEq, Prod.mk.injEq] at H
   obtain ⟨rfl, rfl, rfl, rfl⟩ := H
   go_enter Try.func122, Try.ntmps122
   go_wp2_with (first | ((with_reducible refine gate_dst (N := 2) rfl ?_); refine boxev 2 #[.int .i64 0, .int .i64 0] 80 ?_; intro gb230 hg w41 hbox hb; replace HB := ak (below_step (by repeat (first | (with_reducible first | exact HB.out | apply below_alloc | apply pw_below_drewN | apply below_drew1 | refine below_set ?_ (IsS147.ge HI0.out)) | exact HB.out)) hb); have BK230 := ak (hbox); have GW230 := ak ((by rw [hg]; exact (keep_size (w := w) (g := g) (row := none) (by repeat (first | (with_reducible first | exact HK.out | apply KeepBut.set_ | apply keep_drewN | apply keep_drew | apply keep_alloc) | exact HK.out))) : w.heap.size ≤ gb230)); have GE230 := ak ((Nat.le_trans HW0.out (by rw [hg]; exact (keep_size (w := w) (g := g) (row := none) (by repeat (first | (with_reducible first | exact HK.out | apply KeepBut.set_ | apply keep_drewN | apply keep_drew | apply keep_alloc) | exact HK.out))) : w.heap.size ≤ gb230) : w0.heap.size ≤ gb230)); replace HK := ak (KeepBut.trans (by repeat (first | (with_reducible first | exact HK.out | apply KeepBut.set_ | apply keep_drewN | apply keep_drew | apply keep_alloc) | exact HK.out)) (KeepBut.of_below hb g none) (.inl rfl)); have NB0_230 := ak ((by rw [hg]; exact Nat.ne_of_lt (IsS147.lt (show IsS147 w0 _ g s0_0 s0_1 s0_2 from by repeat (first | (with_reducible first | exact HI0.out | apply IsS147.alloc | apply IsS147.drewN | apply IsS147.drew | apply IsS147.set_1 | apply IsS147.set_2) | exact HI0.out))) : g ≠ gb230)); have NB230_0 := ak ((by rw [hg]; exact Nat.ne_of_gt (IsS147.lt (show IsS147 w0 _ g s0_0 s0_1 s0_2 from by repeat (first | (with_reducible first | exact HI0.out | apply IsS147.alloc | apply IsS147.drewN | apply IsS147.drew | apply IsS147.set_1 | apply IsS147.set_2) | exact HI0.out))) : gb230 ≠ g)); replace HI0 := ak (IsS147.below (by repeat (first | (with_reducible first | exact HI0.out | apply IsS147.alloc | apply IsS147.drewN | apply IsS147.drew | apply IsS147.set_1 | apply IsS147.set_2) | exact HI0.out)) hb); clear hb hbox hg) | ((with_reducible refine gate_callee (f := 142) rfl ?_); refine goesLa (some 8) rfl Try.func142 #[.pointer (some ⟨g, 0, none⟩)] rfl ?_; (with_reducible refine (spec_l1Cur_numbers.calls k g s0_0 s0_1 s0_2 t231 t234 t235 w0 _ ?side1 ?side2 A2.out).mono ?_); (case side1 => repeat (first | (with_reducible first | exact HI0.out | apply IsS147.alloc | apply IsS147.drewN | apply IsS147.drew | apply IsS147.set_1 | apply IsS147.set_2 | refine IsS147.far ?_ NB0_230.out _) | exact HI0.out)); (case side2 => repeat (first | (with_reducible first | exact HB.out | apply below_alloc | apply pw_below_drewN | apply below_drew1 | refine below_set ?_ (IsS147.ge HI0.out) | refine below_set ?_ GE230.out) | exact HB.out)); rintro e w42 ⟨v232, rfl, ho0, hi, hb, hk⟩; refine ⟨_, rfl, ?_⟩; replace BK230 := ak (KeepBut.blk hk (g' := gb230) (blkd BK230) NB230_0.out (by simp)); have HO233 := ak (Kd.R_lower ho0 (keep_size (w := w) (g := g) (row := none) (by repeat (first | (with_reducible first | exact HK.out | apply KeepBut.set_ | apply keep_drewN | apply keep_drew | apply keep_alloc | refine keep_far ?_ GW230.out _) | exact HK.out)))); replace HK := ak (KeepBut.trans (by repeat (first | (with_reducible first | exact HK.out | apply KeepBut.set_ | apply keep_drewN | apply keep_drew | apply keep_alloc | refine keep_far ?_ GW230.out _) | exact HK.out)) hk (.inl rfl)); replace HB := ak (hb); replace HI0 := ak (hi); (try clear hb); (try clear hk); (try clear hi); (try clear ho0); obtain ⟨Ao43, co43, eo43⟩ := Kd.R_slice HO233.out; subst eo43) | ((with_reducible refine gate_callee (f := 84) rfl ?_); refine goesLa (some 9) rfl Try.func84 #[.slice Ao43 t231.length co43] rfl ?_; (with_reducible refine (spec_PlayNumbers.calls k _ _ t231 t236 t239 t240 t241 _ ?side1 ?side2 A3.out).mono ?_); (case side1 => exact cd (Kd.R_reads' HO233.out).2.2); (case side2 => exact (Kd.R_reads' HO233.out).2.1); rintro e w44 ⟨v237, rfl, ho0, hb⟩; refine ⟨_, rfl, ?_⟩; have HO238 := ak (Kd.R_lower (Kd.R_new' ho0 (Kd.R_lt (rdl HO233))) (keep_size (w := w) (g := g) (row := none) (by repeat (first | (with_reducible first | exact HK.out | apply KeepBut.set_ | apply keep_drewN | apply keep_drew | apply keep_alloc | refine keep_far ?_ GW230.out _) | exact HK.out)))); replace HO233 := ak (Kd.R_elder' (rdl HO233) (Kd.R_base ho0) hb); replace BK230 := ak (blk_below (blkd BK230) hb); replace HK := ak (KeepBut.trans (by repeat (first | (with_reducible first | exact HK.out | apply KeepBut.set_ | apply keep_drewN | apply keep_drew | apply keep_alloc | refine keep_far ?_ GW230.out _) | exact HK.out)) (KeepBut.of_below hb g none) (.inl rfl)); replace HB := ak (below_step (by repeat (first | (with_reducible first | exact HB.out | apply below_alloc | apply pw_below_drewN | apply below_drew1 | refine below_set ?_ (IsS147.ge HI0.out) | refine below_set ?_ GE230.out) | exact HB.out)) hb); replace HI0 := ak (IsS147.below (by repeat (first | (with_reducible first | exact HI0.out | apply IsS147.alloc | apply IsS147.drewN | apply IsS147.drew | apply IsS147.set_1 | apply IsS147.set_2 | refine IsS147.far ?_ NB0_230.out _) | exact HI0.out)) hb); (try clear hb); (try clear ho0)) | ((with_reducible refine gate_dst (N := 4) rfl ?_); refine boxev 4 #[.int .i64 0, .int .i64 0] 80 ?_; intro gb242 hg w45 hbox hb; replace HO233 := ak (Kd.R_below (rdl HO233) hb); replace HO238 := ak (Kd.R_below (rdl HO238) hb); replace HB := ak (below_step (by repeat (first | (with_reducible first | exact HB.out | apply below_alloc | apply pw_below_drewN | apply below_drew1 | refine below_set ?_ (IsS147.ge HI0.out) | refine below_set ?_ GE230.out) | exact HB.out)) hb); have BK242 := ak (hbox); have GW242 := ak ((by rw [hg]; exact (keep_size (w := w) (g := g) (row := none) (by repeat (first | (with_reducible first | exact HK.out | apply KeepBut.set_ | apply keep_drewN | apply keep_drew | apply keep_alloc | refine keep_far ?_ GW230.out _) | exact HK.out))) : w.heap.size ≤ gb242)); have GE242 := ak ((Nat.le_trans HW0.out (by rw [hg]; exact (keep_size (w := w) (g := g) (row := none) (by repeat (first | (with_reducible first | exact HK.out | apply KeepBut.set_ | apply keep_drewN | apply keep_drew | apply keep_alloc | refine keep_far ?_ GW230.out _) | exact HK.out))) : w.heap.size ≤ gb242) : w0.heap.size ≤ gb242)); replace HK := ak (KeepBut.trans (by repeat (first | (with_reducible first | exact HK.out | apply KeepBut.set_ | apply keep_drewN | apply keep_drew | apply keep_alloc | refine keep_far ?_ GW230.out _) | exact HK.out)) (KeepBut.of_below hb g none) (.inl rfl)); have NB230_242 := ak ((by rw [hg]; exact Nat.ne_of_lt (blk_lt (blkd BK230)) : gb230 ≠ gb242)); have NB242_230 := ak ((by rw [hg]; exact Nat.ne_of_gt (blk_lt (blkd BK230)) : gb242 ≠ gb230)); replace BK230 := ak (blk_below (blkd BK230) hb); have NB0_242 := ak ((by rw [hg]; exact Nat.ne_of_lt (IsS147.lt (show IsS147 w0 _ g s0_0 t234 t235 from by repeat (first | (with_reducible first | exact HI0.out | apply IsS147.alloc | apply IsS147.drewN | apply IsS147.drew | apply IsS147.set_1 | apply IsS147.set_2 | refine IsS147.far ?_ NB0_230.out _) | exact HI0.out))) : g ≠ gb242)); have NB242_0 := ak ((by rw [hg]; exact Nat.ne_of_gt (IsS147.lt (show IsS147 w0 _ g s0_0 t234 t235 from by repeat (first | (with_reducible first | exact HI0.out | apply IsS147.alloc | apply IsS147.drewN | apply IsS147.drew | apply IsS147.set_1 | apply IsS147.set_2 | refine IsS147.far ?_ NB0_230.out _) | exact HI0.out))) : gb242 ≠ g)); replace HI0 := ak (IsS147.below (by repeat (first | (with_reducible first | exact HI0.out | apply IsS147.alloc | apply IsS147.drewN | apply IsS147.drew | apply IsS147.set_1 | apply IsS147.set_2 | refine IsS147.far ?_ NB0_230.out _) | exact HI0.out)) hb); clear hb hbox hg; have hnb46 := NB242_230.out; have hnc46 := NB230_242.out; have hnb47 := NB242_0.out; have hnc47 := NB0_242.out; obtain ⟨hcz48_0, hcz48_1, hfz48_0, hfz48_1⟩ := box2 BK242) | ((with_reducible refine gate_callee (f := 118) rfl ?_); refine goesLa (some 14) rfl Try.func118 #[.pointer (some ⟨g, 0, none⟩), .int .i64 20] rfl ?_; (with_reducible refine (spec_l1Cur_pick.calls g s0_0 t234 t235 20 t243 t244 t245 w0 _ ?side1 ?side2 A4.out).mono ?_); (case side1 => repeat (first | (with_reducible first | exact HI0.out | apply IsS147.alloc | apply IsS147.drewN | apply IsS147.drew | apply IsS147.set_1 | apply IsS147.set_2 | refine IsS147.far ?_ NB0_230.out _ | refine IsS147.far ?_ NB0_242.out _) | exact HI0.out)); (case side2 => repeat (first | (with_reducible first | exact HB.out | apply below_alloc | apply pw_below_drewN | apply below_drew1 | refine below_set ?_ (IsS147.ge HI0.out) | refine below_set ?_ GE230.out | refine below_set ?_ GE242.out) | exact HB.out)); rintro e w49 ⟨rfl, hi, hb, hk⟩; refine ⟨_, rfl, ?_⟩; replace BK230 := ak (KeepBut.blk hk (g' := gb230) (o := .cells #[.int .i64 0, .int .i64 0] 80 (0, 0)) (by (with_reducible repeat (first | refine blk_drewN ?_ _ | refine blk_drew ?_ | refine blk_alloc ?_ _)); refine blk_far ?_ NB230_242.out _; (with_reducible repeat (first | refine blk_drewN ?_ _ | refine blk_drew ?_ | refine blk_alloc ?_ _)); refine blk_far ?_ NB230_242.out _; (with_reducible repeat (first | refine blk_drewN ?_ _ | refine blk_drew ?_ | refine blk_alloc ?_ _)); exact BK230.out) NB230_0.out (by simp)); replace HO233 := ak (Kd.R_mono (Kd.R_keep (IsS147.apart (show IsS147 w0 _ g s0_0 t234 t235 from by repeat (first | (with_reducible first | exact HI0.out | apply IsS147.alloc | apply IsS147.drewN | apply IsS147.drew | apply IsS147.set_1 | apply IsS147.set_2 | refine IsS147.far ?_ NB0_230.out _ | refine IsS147.far ?_ NB0_242.out _) | exact HI0.out)) (by (with_reducible repeat (first | apply Kd.R_alloc | apply Kd.R_drewN | apply Kd.R_drew)); exact (Kd.R_mono (farsR (Kd.R_types HO233.out BK242.out (by decide))) (fun _ h_ => h_.1))) (by decide)) hk (fun _ h => h.2)) (fun _ h => h.1)); replace HO238 := ak (Kd.R_mono (Kd.R_keep (IsS147.apart (show IsS147 w0 _ g s0_0 t234 t235 from by repeat (first | (with_reducible first | exact HI0.out | apply IsS147.alloc | apply IsS147.drewN | apply IsS147.drew | apply IsS147.set_1 | apply IsS147.set_2 | refine IsS147.far ?_ NB0_230.out _ | refine IsS147.far ?_ NB0_242.out _) | exact HI0.out)) (by (with_reducible repeat (first | apply Kd.R_alloc | apply Kd.R_drewN | apply Kd.R_drew)); exact (Kd.R_mono (farsR (Kd.R_types HO238.out BK242.out (by decide))) (fun _ h_ => h_.1))) (by decide)) hk (fun _ h => h.2)) (fun _ h => h.1)); replace BK242 := ak (KeepBut.blk hk (g' := gb242) (o := .cells #[.int .i64 t239, .int .i64 t240] 80 (0, 0)) (by (with_reducible repeat (first | refine blk_drewN ?_ _ | refine blk_drew ?_ | refine blk_alloc ?_ _)); refine blk_put (cs := #[.int .i64 t239, .int .i64 0]) ?_ 1 _ rfl; (with_reducible repeat (first | refine blk_drewN ?_ _ | refine blk_drew ?_ | refine blk_alloc ?_ _)); refine blk_put (cs := #[.int .i64 0, .int .i64 0]) ?_ 0 _ rfl; (with_reducible repeat (first | refine blk_drewN ?_ _ | refine blk_drew ?_ | refine blk_alloc ?_ _)); exact BK242.out) NB242_0.out (by simp)); replace HK := ak (KeepBut.trans (by repeat (first | (with_reducible first | exact HK.out | apply KeepBut.set_ | apply keep_drewN | apply keep_drew | apply keep_alloc | refine keep_far ?_ GW230.out _ | refine keep_far ?_ GW242.out _) | exact HK.out)) hk (.inl rfl)); replace HB := ak (hb); replace HI0 := ak (hi); (try clear hb); (try clear hk); (try clear hi); obtain ⟨hcz50_0, hcz50_1, hfz50_0, hfz50_1⟩ := box2 BK242; have hnb51 := NB230_0.out; have hnc51 := NB0_230.out; obtain ⟨hcz52_0, hcz52_1, hfz52_0, hfz52_1⟩ := box2 BK230))
   refine bodyPost_ret (results_cell_row rfl _ _ gb230 80 #[.int .i64 t239, .int .i64 t240] (0, 0) _ rfl (by (with_reducible repeat (first | refine blk_drewN ?_ _ | refine blk_drew ?_ | refine blk_alloc ?_ _)); refine blk_put (cs := #[.int .i64 t239, .int .i64 0]) ?_ 1 _ rfl; (with_reducible repeat (first | refine blk_drewN ?_ _ | refine blk_drew ?_ | refine blk_alloc ?_ _)); refine blk_put (cs := #[.int .i64 0, .int .i64 0]) ?_ 0 _ rfl; (with_reducible repeat (first | refine blk_drewN ?_ _ | refine blk_drew ?_ | refine blk_alloc ?_ _)); exact BK230.out) Try.underlying80 rfl (by kernel_rfl)) rfl ?_
   exact ⟨er2, by repeat (first | (with_reducible first | exact HI0.out | apply IsS147.alloc | apply IsS147.drewN | apply IsS147.drew | apply IsS147.set_1 | apply IsS147.set_2 | refine IsS147.far ?_ NB0_230.out _ | refine IsS147.far ?_ NB0_242.out _) | exact HI0.out), by repeat (first | (with_reducible first | exact HB.out | apply below_alloc | apply pw_below_drewN | apply below_drew1 | refine below_set ?_ (IsS147.ge HI0.out) | refine below_set ?_ GE230.out | refine below_set ?_ GE242.out) | exact HB.out), by repeat (first | (with_reducible first | exact HK.out | apply KeepBut.set_ | apply keep_drewN | apply keep_drew | apply keep_alloc | refine keep_far ?_ GW230.out _ | refine keep_far ?_ GW242.out _) | exact HK.out)⟩

/-! ### spec_DrawTakeNumber: function 87 -/
def spec_DrawTakeNumber.f (k : Nat) (l0 : List Int) : Option (Int × Int × Int) := (spec_l1Cur_window.f k l0 0 0).bind fun bt260 => ((spec_l1Cur_among.f l0 bt260.2.2.1 bt260.2.2.2 (([0, 1, bt260.1, wrap64 (bt260.1 + 1), wrap64 (bt260.1 - 3), wrap64 (bt260.1 - 16), wrap64 (bt260.1 - 15), wrap64 (bt260.1 + 16), 100000, 100001] : List Int))).bind fun bt268 => (some (bt260.1, bt260.2.1, bt268.1)))
theorem spec_DrawTakeNumber.mono : ∀ a0 k, LeO (spec_DrawTakeNumber.f k a0) (spec_DrawTakeNumber.f (k + 1) a0) := by
 intro a0 k
 unfold spec_DrawTakeNumber.f
 repeat' (first | (with_reducible first | exact spec_l1Cur_window.mono _ _ _ _ | exact LeO.refl _ | exact LeO.none _ | refine LeO.ite ?_ ?_ | refine LeO.bind ?_ (fun _ => ?_)) | exact spec_l1Cur_window.mono _ _ _ _ | exact LeO.none _ | refine LeO.ite ?_ ?_ | refine LeO.bind ?_ (fun _ => ?_))
def spec_DrawTakeNumber.T3 : Bool × List (List Nat × List Nat) := (true, [([], []), ([], []), ([], []), ([2], [2]), ([], []), ([4], [4]), ([5], [5]), ([], []), ([7], [7]), ([8], [8]), ([], []), ([10], [10]), ([11], [11]), ([], []), ([13], [13]), ([14], [14]), ([], []), ([16], [16]), ([17], [17]), ([3, 6, 9, 12, 15, 18], [3, 6, 9, 12, 15, 18]), ([1, 19], [1, 19]), ([0, 20, 0], [0]), ([20, 21, 0, 1, 2, 3, 4, 5, 6, 7, 8, 9, 10, 11, 12, 13, 14, 15, 16, 17, 18, 19, 20, 21], [20])])
def spec_DrawTakeNumber.B3 : List Nat := [0, 0, 0, 4, 0, 16, 48, 0, 128, 384, 0, 1024, 3072, 0, 8192, 24576, 0, 65536, 196608, 524284, 1048574, 2097151, 4194303]
theorem spec_DrawTakeNumber.tab3 : rtab .any (opsOf Try.f87 3) = spec_DrawTakeNumber.T3 := by kernel_rfl
theorem spec_DrawTakeNumber.bits3 : waitsOk spec_DrawTakeNumber.T3.2 spec_DrawTakeNumber.B3 = true := by kernel_rfl
set_option maxHeartbeats 8000000 in
set_option maxRecDepth 100000 in
theorem spec_DrawTakeNumber.calls (k : Nat) (A0 : Option Addr) (c0 : Nat) (l0 : List Int) (r1 : Int) (r2 : Int) (r3 : Int) (w : World) (hr0 : Kd.C (Kd.int .u8) w A0 l0.length l0) (hc0 : l0.length ≤ c0) (h : spec_DrawTakeNumber.f k l0 = some (r1, r2, r3)) :
  Calls Try.prog 87 #[.slice A0 l0.length c0] w fun e w' => e = .returned (.tuple #[.agg #[.int .i64 r1, .int .i64 r2], .int .i64 r3]) ∧ Below w.heap.size w w' := by
 have hu80 := Try.underlying80
 have hu147 := Try.underlying147
 have HR0 := Aside0.mk hr0; have HC0 := Aside0.mk hc0; clear hr0 hc0
 have HB := Aside0.mk (Below.refl w.heap.size w)
 have H : ((spec_l1Cur_window.f k l0 0 0).bind fun bt260 => ((spec_l1Cur_among.f l0 bt260.2.2.1 bt260.2.2.2 (([0, 1, bt260.1, wrap64 (bt260.1 + 1), wrap64 (bt260.1 - 3), wrap64 (bt260.1 - 16), wrap64 (bt260.1 - 15), wrap64 (bt260.1 + 16), 100000, 100001] : List Int))).bind fun bt268 => (some (bt260.1, bt260.2.1, bt268.1)))) = some (r1, r2, r3) := h
 clear h; replace H := bS H; obtain ⟨⟨t260, t261, t262, t263⟩, A2, H⟩ := H
 replace H : ((spec_l1Cur_among.f l0 t262 t263 (([0, 1, t260, wrap64 (t260 + 1), wrap64 (t260 - 3), wrap64 (t260 - 16), wrap64 (t260 - 15), wrap64 (t260 + 16), 100000, 100001] : List Int))).bind fun bt268 => (some (t260, t261, bt268.1))) = some (r1, r2, r3) := H
 obtain ⟨y265, hy_⟩ : ∃ y_ : List Int, y_ = (([0, 1, t260, wrap64 (t260 + 1), wrap64 (t260 - 3), wrap64 (t260 - 16), wrap64 (t260 - 15), wrap64 (t260 + 16), 100000, 100001] : List Int)) := ⟨_, rfl⟩
 replace H : ((spec_l1Cur_among.f l0 t262 t263 y265).bind fun bt268 => (some (t260, t261, bt268.1))) = some (r1, r2, r3) := yH
 have Ny265 := ak hy_; clear hy_; replace H := bS H; obtain ⟨⟨t268, t269, t270⟩, A3, H⟩ := H
 replace H : (some (t260, t261, t268)) = some (r1, r2, r3) := H
 simp only [Option.some.injEq, Prod.mk.injEq] at H
 obtain ⟨rfl, rfl, rfl⟩ := H
 go_enter Try.func87, Try.ntmps87
 try go_wp2_with (first | ((with_reducible refine gate_dst (N := 2) rfl ?_); refine boxev 2 #[.int .i64 0, .int .i64 0] 80 ?_; intro gb258 hg w4 hbox hb; have BK258 := ak (hbox); have GW258 := ak (hgl hg (belowd HB)); have GE258 := ak (hgl hg (belowd HB)); replace HB := ak (below_step (belowd HB) hb); clear hb hbox hg) | ((with_reducible refine gate_dst (N := 8) rfl ?_); refine boxev 8 #[.slice A0 l0.length c0, .int .i64 0, .int .u64 0] 147 ?_; intro gb259 hg w5 hbox hb; have HI259 := ak ((show IsS147 w w5 gb259 l0 0 0 from IsS147.of_blk hbox (by rw [hg]; exact (below_size (belowg1 HB GE258))) HR0.out)); replace HB := ak (below_step (belowg1 HB GE258) hb); have NB258_259 := ak ((by rw [hg]; exact Nat.ne_of_lt (blk_lt (blkd BK258)) : gb258 ≠ gb259)); have NB259_258 := ak ((by rw [hg]; exact Nat.ne_of_gt (blk_lt (blkd BK258)) : gb259 ≠ gb258)); replace BK258 := ak (blk_below (blkd BK258) hb); clear hb hbox hg) | ((with_reducible refine gate_callee (f := 122) rfl ?_); refine goesLa (some 10) rfl Try.func122 #[.pointer (some ⟨gb259, 0, none⟩)] rfl ?_; (with_reducible refine (spec_l1Cur_window.calls k gb259 l0 0 0 t260 t261 t262 t263 w _ ?side1 ?side2 A2.out).mono ?_); (case side1 => repeat (first | (with_reducible first | exact HI259.out | apply IsS147.alloc | apply IsS147.drewN | apply IsS147.drew | apply IsS147.set_1 | apply IsS147.set_2 | refine IsS147.far ?_ NB259_258.out _) | exact HI259.out)); (case side2 => repeat (first | (with_reducible first | exact HB.out | apply below_alloc | apply pw_below_drewN | apply below_drew1 | refine below_set ?_ (IsS147.ge HI259.out) | refine below_set ?_ GE258.out) | exact HB.out)); rintro e w6 ⟨rfl, hi, hb, hk⟩; refine ⟨_, rfl, ?_⟩; replace BK258 := ak (KeepBut.blk hk (g' := gb258) (blkd BK258) NB258_259.out (by simp)); replace HB := ak (hb); replace HI259 := ak (hi); (try clear hb); (try clear hk); (try clear hi)) | ((with_reducible refine gate_dst (N := 5) rfl ?_); refine boxev 5 #[.int .i64 0, .int .i64 0] 80 ?_; intro gb264 hg w7 hbox hb; have BK264 := ak (hbox); have GW264 := ak ((by rw [hg]; exact (below_size (by repeat (first | (with_reducible first | exact HB.out | apply below_alloc | apply pw_below_drewN | apply below_drew1 | refine below_set ?_ (IsS147.ge HI259.out) | refine below_set ?_ GE258.out) | exact HB.out))) : w.heap.size ≤ gb264)); have GE264 := ak ((by rw [hg]; exact (below_size (by repeat (first | (with_reducible first | exact HB.out | apply below_alloc | apply pw_below_drewN | apply below_drew1 | refine below_set ?_ (IsS147.ge HI259.out) | refine below_set ?_ GE258.out) | exact HB.out))) : w.heap.size ≤ gb264)); replace HB := ak (below_step (by repeat (first | (with_reducible first | exact HB.out | apply below_alloc | apply pw_below_drewN | apply below_drew1 | refine below_set ?_ (IsS147.ge HI259.out) | refine below_set ?_ GE258.out) | exact HB.out)) hb); have NB258_264 := ak ((by rw [hg]; exact Nat.ne_of_lt (blk_lt (blkd BK258)) : gb258 ≠ gb264)); have NB264_258 := ak ((by rw [hg]; exact Nat.ne_of_gt (blk_lt (blkd BK258)) : gb264 ≠ gb258)); replace BK258 := ak (blk_below (blkd BK258) hb); have NB259_264 := ak ((by rw [hg]; exact Nat.ne_of_lt (IsS147.lt (show IsS147 w _ gb259 l0 t262 t263 from by repeat (first | (with_reducible first | exact HI259.out | apply IsS147.alloc | apply IsS147.drewN | apply IsS147.drew | apply IsS147.set_1 | apply IsS147.set_2 | refine IsS147.far ?_ NB259_258.out _) | exact HI259.out))) : gb259 ≠ gb264)); have NB264_259 := ak ((by rw [hg]; exact Nat.ne_of_gt (IsS147.lt (show IsS147 w _ gb259 l0 t262 t263 from by repeat (first | (with_reducible first | exact HI259.out | apply IsS147.alloc | apply IsS147.drewN | apply IsS147.drew | apply IsS147.set_1 | apply IsS147.set_2 | refine IsS147.far ?_ NB259_258.out _) | exact HI259.out))) : gb264 ≠ gb259)); replace HI259 := ak (IsS147.below (by repeat (first | (with_reducible first | exact HI259.out | apply IsS147.alloc | apply IsS147.drewN | apply IsS147.drew | apply IsS147.set_1 | apply IsS147.set_2 | refine IsS147.far ?_ NB259_258.out _) | exact HI259.out)) hb); clear hb hbox hg; have hnb8 := NB264_258.out; have hnc8 := NB258_264.out; have hnb9 := NB264_259.out; have hnc9 := NB259_264.out; obtain ⟨hcz10_0, hcz10_1, hfz10_0, hfz10_1⟩ := box2 BK264))
 have n0_ : Aside0 (((w7.setCell ⟨gb264, 0, none⟩ (.int .i64 t260)).setCell ⟨gb264, 1, none⟩ (.int .i64 t261)).heap[gb258]? = some (.cells #[.int .i64 0, .int .i64 0] 80 (0, 0))) := ⟨by (with_reducible repeat (first | refine blk_drewN ?_ _ | refine blk_drew ?_ | refine blk_alloc ?_ _)); refine blk_far ?_ NB258_264.out _; (with_reducible repeat (first | refine blk_drewN ?_ _ | refine blk_drew ?_ | refine blk_alloc ?_ _)); refine blk_far ?_ NB258_264.out _; (with_reducible repeat (first | refine blk_drewN ?_ _ | refine blk_drew ?_ | refine blk_alloc ?_ _)); exact BK258.out⟩
 have n1_ : Aside0 (((w7.setCell ⟨gb264, 0, none⟩ (.int .i64 t260)).setCell ⟨gb264, 1, none⟩ (.int .i64 t261)).heap[gb264]? = some (.cells #[.int .i64 t260, .int .i64 t261] 80 (0, 0))) := ⟨by (with_reducible repeat (first | refine blk_drewN ?_ _ | refine blk_drew ?_ | refine blk_alloc ?_ _)); refine blk_put (cs := #[.int .i64 t260, .int .i64 0]) ?_ 1 _ rfl; (with_reducible repeat (first | refine blk_drewN ?_ _ | refine blk_drew ?_ | refine blk_alloc ?_ _)); refine blk_put (cs := #[.int .i64 0, .int .i64 0]) ?_ 0 _ rfl; (with_reducible repeat (first | refine blk_drewN ?_ _ | refine blk_drew ?_ | refine blk_alloc ?_ _)); exact BK264.out⟩
 have n2_ : Aside0 (IsS147 w ((w7.setCell ⟨gb264, 0, none⟩ (.int .i64 t260)).setCell ⟨gb264, 1, none⟩ (.int .i64 t261)) gb259 l0 t262 t263) := ⟨by repeat (first | (with_reducible first | exact HI259.out | apply IsS147.alloc | apply IsS147.drewN | apply IsS147.drew | apply IsS147.set_1 | apply IsS147.set_2 | refine IsS147.far ?_ NB259_258.out _ | refine IsS147.far ?_ NB259_264.out _) | exact HI259.out)⟩
 have n3_ : Aside0 (Below w.heap.size w ((w7.setCell ⟨gb264, 0, none⟩ (.int .i64 t260)).setCell ⟨gb264, 1, none⟩ (.int .i64 t261))) := ⟨by repeat (first | (with_reducible first | exact HB.out | apply below_alloc | apply pw_below_drewN | apply below_drew1 | refine below_set ?_ (IsS147.ge HI259.out) | refine below_set ?_ GE258.out | refine below_set ?_ GE264.out) | exact HB.out)⟩
 (try clear BK258); (try clear BK264); (try clear HI259); (try clear HB)
 generalize ((w7.setCell ⟨gb264, 0, none⟩ (.int .i64 t260)).setCell ⟨gb264, 1, none⟩ (.int .i64 t261)) = w11 at n0_ n1_ n2_ n3_ ⊢
 have BK258 := n0_
 have BK264 := n1_
 have HI259 := n2_
 have HB := n3_
 clear n0_ n1_ n2_ n3_
 replace BK258 := ak (blk_drew BK258.out)
 replace BK264 := ak (blk_drew BK264.out)
 replace HI259 := ak (IsS147.drew HI259.out)
 replace HB := ak (below_drew1 HB.out)
 refine start_ (n := 23) (S := fun w' => w'.cell? ⟨gb264, 0, none⟩ = some (.int .i64 t260) ∧ w'.cell? ⟨gb264, 1, none⟩ = some (.int .i64 t261)) (ds := []) (bl 23 0) (by kernel_rfl) rfl rfl ⟨bq BK264 0, bq BK264 1⟩ (fun hHeld => ?_); refine with_tabW spec_DrawTakeNumber.tab3 spec_DrawTakeNumber.bits3 (fun HT_ HW_ => ?_)
 generalize w11.drew = w12 at BK258 BK264 HI259 HB hHeld ⊢
 refine pureA 1 (some 12) 23 2 HT_ ?_
 refine pureA 2 (some 13) 23 6 HT_ ?_
 refine pureA 4 (some 15) 23 22 HT_ ?_
 refine pureA 7 (some 18) 23 150 HT_ ?_
 refine pureA 10 (some 21) 23 1174 HT_ ?_
 refine pureA 13 (some 24) 23 9366 HT_ ?_
 refine pureA 16 (some 27) 23 74902 HT_ ?_
 refine takeA 0 (some 11) 23 74903 HT_ HW_ hHeld ?_ (hy := by rintro w' ⟨s0, s1⟩; go_simp; with_reducible rfl)
 refine takeA 3 (some 14) 23 74911 HT_ HW_ hHeld ?_ (hy := by rintro w' ⟨s0, s1⟩; go_simp; with_reducible rfl)
 refine takeA 5 (some 16) 23 74943 HT_ HW_ hHeld ?_ (hy := by rintro w' ⟨s0, s1⟩; go_simp; with_reducible rfl)
 refine pureA 6 (some 17) 23 75007 HT_ ?_
 refine takeA 8 (some 19) 23 75263 HT_ HW_ hHeld ?_ (hy := by rintro w' ⟨s0, s1⟩; go_simp; with_reducible rfl)
 refine pureA 9 (some 20) 23 75775 HT_ ?_
 refine takeA 11 (some 22) 23 77823 HT_ HW_ hHeld ?_ (hy := by rintro w' ⟨s0, s1⟩; go_simp; with_reducible rfl)
 refine pureA 12 (some 23) 23 81919 HT_ ?_
 refine takeA 14 (some 25) 23 98303 HT_ HW_ hHeld ?_ (hy := by rintro w' ⟨s0, s1⟩; go_simp; with_reducible rfl)
 refine pureA 15 (some 26) 23 131071 HT_ ?_
 refine takeA 17 (some 28) 23 262143 HT_ HW_ hHeld ?_ (hy := by rintro w' ⟨s0, s1⟩; go_simp; with_reducible rfl)
 refine pureA 18 (some 29) 23 524287 HT_ ?_
 refine oneA 19 (some 30) 23 1048575 HT_ (fun K hK => ?_)
 refine Kd.R_lit_step (Kd.int .i64) _ 3 ?hg (N := 30) ?hd (xs := ([0, 1, t260, wrap64 (t260 + 1), wrap64 (t260 - 3), wrap64 (t260 - 16), wrap64 (t260 - 15), wrap64 (t260 + 16), 100000, 100001] : List Int)) (inner := [.int .i64 0, .int .i64 1, .int .i64 t260, .int .i64 (wrap64 (t260 + 1)), .int .i64 (wrap64 (t260 - 3)), .int .i64 (wrap64 (t260 - 16)), .int .i64 (wrap64 (t260 - 15)), .int .i64 (wrap64 (t260 + 16)), .int .i64 100000, .int .i64 100001]) (ok := fun _ => True) (okp := fun _ => True) ?hr ?hp (fun _ hk => hk) trivial (Below.refl _ _) (Nat.le_refl _) (by simp) ?_; (case hd => rfl); (case hg => rfl); (case hr => first | (go_simp; done) | (go_simp; rfl)); (case hp => exact (Reps.one (show Kd.M (Kd.int .i64) _ _ _ 0 [.int .i64 0] from rfl) (Reps.one (show Kd.M (Kd.int .i64) _ _ _ 1 [.int .i64 1] from rfl) (Reps.one (show Kd.M (Kd.int .i64) _ _ _ t260 [.int .i64 t260] from rfl) (Reps.one (show Kd.M (Kd.int .i64) _ _ _ (wrap64 (t260 + 1)) [.int .i64 (wrap64 (t260 + 1))] from rfl) (Reps.one (show Kd.M (Kd.int .i64) _ _ _ (wrap64 (t260 - 3)) [.int .i64 (wrap64 (t260 - 3))] from rfl) (Reps.one (show Kd.M (Kd.int .i64) _ _ _ (wrap64 (t260 - 16)) [.int .i64 (wrap64 (t260 - 16))] from rfl) (Reps.one (show Kd.M (Kd.int .i64) _ _ _ (wrap64 (t260 - 15)) [.int .i64 (wrap64 (t260 - 15))] from rfl) (Reps.one (show Kd.M (Kd.int .i64) _ _ _ (wrap64 (t260 + 16)) [.int .i64 (wrap64 (t260 + 16))] from rfl) (Reps.one (show Kd.M (Kd.int .i64) _ _ _ 100000 [.int .i64 100000] from rfl) (Reps.one (show Kd.M (Kd.int .i64) _ _ _ 100001 [.int .i64 100001] from rfl) (Reps.none _ _))))))))))))
 intro v266 w13 ho14 hb hg_ hnew_
 clear hg_ hnew_
 (first | rw [← Ny265.out] at ho14 | (simp only [Int.reduceToNat] at ho14; rw [← Ny265.out] at ho14))
 have HO267 := ak (Kd.R_lower ho14 (below_size (by repeat (first | (with_reducible first | exact HB.out | apply below_alloc | apply pw_below_drewN | apply below_drew1 | refine below_set ?_ (IsS147.ge HI259.out) | refine below_set ?_ GE258.out | refine below_set ?_ GE264.out) | exact HB.out))))
 replace BK258 := ak (blk_below (blkd BK258) hb)
 replace BK264 := ak (blk_below (blkd BK264) hb)
 replace HB := ak (below_step (by repeat (first | (with_reducible first | exact HB.out | apply below_alloc | apply pw_below_drewN | apply below_drew1 | refine below_set ?_ (IsS147.ge HI259.out) | refine below_set ?_ GE258.out | refine below_set ?_ GE264.out) | exact HB.out)) hb)
 replace HI259 := ak (IsS147.below (by repeat (first | (with_reducible first | exact HI259.out | apply IsS147.alloc | apply IsS147.drewN | apply IsS147.drew | apply IsS147.set_1 | apply IsS147.set_2 | refine IsS147.far ?_ NB259_258.out _ | refine IsS147.far ?_ NB259_264.out _) | exact HI259.out)) hb)
 clear hb ho14
 obtain ⟨Ao15, co15, eo15⟩ := Kd.R_slice HO267.out
 (first | subst eo15 | (injection eo15 with f1_ f2_ f3_; have f4_ := f1_.symm; have f5_ := f3_.symm; clear f1_ f2_ f3_; subst f4_; subst f5_))
 refine hK.out _ _ ⟨bq BK264 0, bq BK264 1⟩ (fun hHeld => ?_)
 clear hK K
 refine norm_ (a' := ?_) ?_ ?_
 rotate_left
 ·show Act.put _ (some 30) _ = _
  simp only [Act.put, List.setIfInBounds_toArray, List.set_cons_zero, List.set_cons_succ, i64_w, i32_w]
  rfl
 refine oneA 20 (some 31) 23 2097151 HT_ (fun K hK => ?_)
 refine goes_ Try.func148 (by kernel_rfl) rfl #[.pointer (some ⟨gb259, 0, none⟩), .slice Ao15 y265.length co15] (by rfl) rfl rfl (by (try simp only [List.map_toArray, List.map_cons, List.map_nil]); first | done | rfl | (simp only [List.length_drop, List.length_take]; rfl)) ?_
 with_reducible refine (spec_l1Cur_among.calls gb259 l0 t262 t263 _ _ y265 t268 t269 t270 w _ ?side1 ?side2 ?side3 ?side4 ?side5 A3.out).mono ?_
 (case side1 => repeat (first | (with_reducible first | exact HI259.out | apply IsS147.alloc | apply IsS147.drewN | apply IsS147.drew | apply IsS147.set_1 | apply IsS147.set_2 | refine IsS147.far ?_ NB259_258.out _ | refine IsS147.far ?_ NB259_264.out _) | exact HI259.out))
 (case side2 => repeat (first | (with_reducible first | exact HB.out | apply below_alloc | apply pw_below_drewN | apply below_drew1 | refine below_set ?_ (IsS147.ge HI259.out) | refine below_set ?_ GE258.out | refine below_set ?_ GE264.out) | exact HB.out))
 (case side3 => exact cd (Kd.R_reads' HO267.out).2.2)
 (case side4 => exact (Kd.R_reads' HO267.out).2.1)
 (case side5 => exact far_slice (IsS147.own_ne HI259.out HO267.out (by decide)))
 rintro e w16 ⟨rfl, hi, hb, hk⟩
 refine ⟨_, rfl, ?_⟩
 replace BK258 := ak (KeepBut.blk hk (g' := gb258) (blkd BK258) NB258_259.out (by simp))
 replace BK264 := ak (KeepBut.blk hk (g' := gb264) (blkd BK264) NB264_259.out (by simp))
 replace HO267 := ak (Kd.R_mono (Kd.R_keep (IsS147.apart (show IsS147 w _ gb259 l0 t262 t263 from by repeat (first | (with_reducible first | exact HI259.out | apply IsS147.alloc | apply IsS147.drewN | apply IsS147.drew | apply IsS147.set_1 | apply IsS147.set_2 | refine IsS147.far ?_ NB259_258.out _ | refine IsS147.far ?_ NB259_264.out _) | exact HI259.out)) (rdl HO267) (by decide)) hk (fun _ h => h.2)) (fun _ h => h.1))
 replace HB := ak (hb)
 replace HI259 := ak (hi)
 (try clear hb); (try clear hb2); (try clear hk); (try clear hi)
 refine hK.out _ _ ⟨bq BK264 0, bq BK264 1⟩ (fun hHeld => ?_)
 clear hK K
 refine norm_ (a' := ?_) ?_ ?_
 rotate_left
 ·show Act.put _ (some 31) _ = _
  simp only [Act.put, List.setIfInBounds_toArray, List.set_cons_zero, List.set_cons_succ, i64_w, i32_w]
  rfl
 refine oneA 21 none 23 4194303 HT_ (fun K hK => ?_)
 have hs17 : w16.cell? ⟨gb258, 0, none⟩ = some (.int .i64 0) := bq BK258 0
 have hfs17 := blk_frozen BK258.out 0
 have hns17_1 := NB264_258.out; have hms17_1 := NB258_264.out
 have hs18 : w16.cell? ⟨gb258, 1, none⟩ = some (.int .i64 0) := bq BK258 1
 have hfs18 := blk_frozen BK258.out 1
 have hns18_1 := NB264_258.out; have hms18_1 := NB258_264.out
 refine skip_ (w1 := ?_) (by rfl) rfl ?_ ?_
 rotate_left
 ·go_simp
  rfl
 refine hK.out _ _ ⟨((cell_far (p := ⟨gb258, _, none⟩) NB264_258.out _).trans (((cell_far (p := ⟨gb258, _, none⟩) NB264_258.out _).trans (hHeld.1)))), ((cell_far (p := ⟨gb258, _, none⟩) NB264_258.out _).trans (((cell_far (p := ⟨gb258, _, none⟩) NB264_258.out _).trans (hHeld.2))))⟩ (fun hHeld => ?_)
 clear hK K
 refine pureA 22 (some 3) 23 8388607 HT_ ?_
 refine done_ (done_of HT_.out (by kernel_rfl)) ?_
 try go_wp2
 refine bodyPost_ret (results_ct rfl _ _ gb258 80 #[.int .i64 t260, .int .i64 t261] (0, 0) _ rfl (by (with_reducible repeat (first | refine blk_drewN ?_ _ | refine blk_drew ?_ | refine blk_alloc ?_ _)); refine blk_put (cs := #[.int .i64 t260, .int .i64 0]) ?_ 1 _ rfl; (with_reducible repeat (first | refine blk_drewN ?_ _ | refine blk_drew ?_ | refine blk_alloc ?_ _)); refine blk_put (cs := #[.int .i64 0, .int .i64 0]) ?_ 0 _ rfl; (with_reducible repeat (first | refine blk_drewN ?_ _ | refine blk_drew ?_ | refine blk_alloc ?_ _)); exact BK258.out) Try.underlying80 rfl (by kernel_rfl)) rfl ?_
 exact ⟨er2, by repeat (first | (with_reducible first | exact HB.out | apply below_alloc | apply pw_below_drewN | apply below_drew1 | refine below_set ?_ (IsS147.ge HI259.out) | refine below_set ?_ GE258.out | refine below_set ?_ GE264.out) | exact HB.out)⟩

/-! ### impl_isTaken: function 149 -/
def impl_isTaken.f (a0 : Int) : Option (Bool) := (impl_within.f a0 1 100000).bind fun t271 => (some t271)
set_option maxHeartbeats 8000000 in
set_option maxRecDepth 100000 in
theorem impl_isTaken.calls (a0 : Int) (r : Bool) (w : World) (h : impl_isTaken.f a0 = some r) :
  Calls Try.prog 149 #[.int .i64 a0] w fun e w' => e = .returned (.bool r) ∧ Drawn0 w w' := by
 have H : ((impl_within.f a0 1 100000).bind fun t271 => (some t271)) = some r := h
 clear h; replace H := bS H; obtain ⟨t271, A2, H⟩ := H
 replace H : (some t271) = some r := H
 obtain rfl := Option.some.inj H
 go_enter Try.func149, Try.ntmps149
 go_wp2_with (first | ((with_reducible refine gate_callee (f := 101) rfl ?_); refine goesLa (some 4) rfl Try.func101 #[.int .i64 a0, .int .i64 1, .int .i64 100000] rfl ?_; (with_reducible refine (impl_within.calls a0 1 100000 t271 _ A2.out).mono ?_); rintro e w' ⟨rfl, ⟨nd, rfl⟩⟩; refine ⟨_, rfl, ?_⟩))
 go_ret
 exact ⟨er, drw⟩

/-! ### impl_TakeNumber: function 88 -/
def impl_TakeNumber.f (a0_0 : Int) (a0_1 : Int) (a1 : Int) : Option (Int × Int × Int × Bool) := (impl_GoodWindow.f a0_0 a0_1).bind fun t274 => (if t274 = true then ((impl_isTaken.f a1).bind fun t275 => (if t275 = true then ((impl_Window_take.f a0_0 a0_1 a1).bind fun bt276 => (some (bt276.2.1, bt276.2.2, bt276.1, true))) else (some (0, 0, 0, false)))) else (some (0, 0, 0, false)))
set_option maxHeartbeats 8000000 in
set_option maxRecDepth 100000 in
theorem impl_TakeNumber.calls (a0_0 : Int) (a0_1 : Int) (a1 : Int) (r1 : Int) (r2 : Int) (r3 : Int) (r4 : Bool) (w : World) (h : impl_TakeNumber.f a0_0 a0_1 a1 = some (r1, r2, r3, r4)) :
  Calls Try.prog 88 #[.agg #[.int .i64 a0_0, .int .i64 a0_1], .int .i64 a1] w fun e w' => e = .returned (.tuple #[.agg #[.int .i64 r1, .int .i64 r2], .int .i64 r3, .bool r4]) ∧ Below w.heap.size w w' := by
 have hu80 := Try.underlying80
 have HB := Aside0.mk (Below.refl w.heap.size w)
 have H : ((impl_GoodWindow.f a0_0 a0_1).bind fun t274 => (if t274 = true then ((impl_isTaken.f a1).bind fun t275 => (if t275 = true then ((impl_Window_take.f a0_0 a0_1 a1).bind fun bt276 => (some (bt276.2.1, bt276.2.2, bt276.1, true))) else (some (0, 0, 0, false)))) else (some (0, 0, 0, false)))) = some (r1, r2, r3, r4) := h
 clear h; replace H := bS H; obtain ⟨t274, A3, H⟩ := H
 replace H : (if t274 = true then ((impl_isTaken.f a1).bind fun t275 => (if t275 = true then ((impl_Window_take.f a0_0 a0_1 a1).bind fun bt276 => (some (bt276.2.1, bt276.2.2, bt276.1, true))) else (some (0, 0, 0, false)))) else (some (0, 0, 0, false))) = some (r1, r2, r3, r4) := H
 by_cases c4 : t274 = true
 ·subst c4
  have H1 : ((impl_isTaken.f a1).bind fun t275 => (if t275 = true then ((impl_Window_take.f a0_0 a0_1 a1).bind fun bt276 => (some (bt276.2.1, bt276.2.2, bt276.1, true))) else (some (0, 0, 0, false)))) = some (r1, r2, r3, r4) := by rw [if_pos rfl] at H; exact H
  clear H
  have H := H1
  clear H1; replace H := bS H; obtain ⟨t275, A5, H⟩ := H
  replace H : (if t275 = true then ((impl_Window_take.f a0_0 a0_1 a1).bind fun bt276 => (some (bt276.2.1, bt276.2.2, bt276.1, true))) else (some (0, 0, 0, false))) = some (r1, r2, r3, r4) := H
  by_cases c6 : t275 = true
  ·subst c6
   have H1 : ((impl_Window_take.f a0_0 a0_1 a1).bind fun bt276 => (some (bt276.2.1, bt276.2.2, bt276.1, true))) = some (r1, r2, r3, r4) := by rw [if_pos rfl] at H; exact H
   clear H
   have H := H1
   clear H1; replace H := bS H; obtain ⟨⟨t276, t277, t278⟩, A7, H⟩ := H
   replace H : (some (t277, t278, t276, true)) = some (r1, r2, r3, r4) := H
   simp only [Option.some.injEq, Prod.mk.injEq] at H
   obtain ⟨rfl, rfl, rfl, rfl⟩ := H
   go_enter Try.func88, Try.ntmps88
   go_wp2_with (first | ((with_reducible refine gate_dst (N := 2) rfl ?_); refine boxev 2 #[.int .i64 a0_0, .int .i64 a0_1] 80 ?_; intro gb272 hg w8 hbox hb; have HI272 := ak ((show IsS80 w w8 gb272 a0_0 a0_1 from IsS80.of_blk hbox (by rw [hg]; exact (below_size (belowd HB))))); replace HB := ak (below_step (belowd HB) hb); clear hb hbox hg) | ((with_reducible refine gate_dst (N := 4) rfl ?_); refine boxev 4 #[.int .i64 0, .int .i64 0] 80 ?_; intro gb273 hg w9 hbox hb; have BK273 := ak (hbox); have GW273 := ak ((by rw [hg]; exact (below_size (by repeat (first | (with_reducible first | exact HB.out | apply below_alloc | apply pw_below_drewN | apply below_drew1 | refine below_set ?_ (IsS80.ge HI272.out)) | exact HB.out))) : w.heap.size ≤ gb273)); have GE273 := ak ((by rw [hg]; exact (below_size (by repeat (first | (with_reducible first | exact HB.out | apply below_alloc | apply pw_below_drewN | apply below_drew1 | refine below_set ?_ (IsS80.ge HI272.out)) | exact HB.out))) : w.heap.size ≤ gb273)); replace HB := ak (below_step (by repeat (first | (with_reducible first | exact HB.out | apply below_alloc | apply pw_below_drewN | apply below_drew1 | refine below_set ?_ (IsS80.ge HI272.out)) | exact HB.out)) hb); have NB272_273 := ak ((by rw [hg]; exact Nat.ne_of_lt (IsS80.lt (show IsS80 w _ gb272 a0_0 a0_1 from by repeat (first | (with_reducible first | exact HI272.out | apply IsS80.alloc | apply IsS80.drewN | apply IsS80.drew | apply IsS80.set_0 | apply IsS80.set_1) | exact HI272.out))) : gb272 ≠ gb273)); have NB273_272 := ak ((by rw [hg]; exact Nat.ne_of_gt (IsS80.lt (show IsS80 w _ gb272 a0_0 a0_1 from by repeat (first | (with_reducible first | exact HI272.out | apply IsS80.alloc | apply IsS80.drewN | apply IsS80.drew | apply IsS80.set_0 | apply IsS80.set_1) | exact HI272.out))) : gb273 ≠ gb272)); replace HI272 := ak (IsS80.below (by repeat (first | (with_reducible first | exact HI272.out | apply IsS80.alloc | apply IsS80.drewN | apply IsS80.drew | apply IsS80.set_0 | apply IsS80.set_1) | exact HI272.out)) hb); clear hb hbox hg; obtain ⟨HGz10, hgz10⟩ := HI272.out; have hcz10_0 := cellS80_0 HGz10; have hcz10_1 := cellS80_1 HGz10; have hfz10_0 := blk_frozen HGz10 0; have hfz10_1 := blk_frozen HGz10 1; clear HGz10 hgz10) | ((with_reducible refine gate_callee (f := 61) rfl ?_); refine goesLa (some 9) rfl Try.func61 #[.agg #[.int .i64 a0_0, .int .i64 a0_1]] rfl ?_; (with_reducible refine (impl_GoodWindow.calls a0_0 a0_1 true _ A3.out).mono ?_); rintro e w11 ⟨rfl, hb⟩; refine ⟨_, rfl, ?_⟩; replace BK273 := ak (blk_below (blkd BK273) hb); replace HB := ak (below_step (by repeat (first | (with_reducible first | exact HB.out | apply below_alloc | apply pw_below_drewN | apply below_drew1 | refine below_set ?_ (IsS80.ge HI272.out) | refine below_set ?_ GE273.out) | exact HB.out)) hb); replace HI272 := ak (IsS80.below (by repeat (first | (with_reducible first | exact HI272.out | apply IsS80.alloc | apply IsS80.drewN | apply IsS80.drew | apply IsS80.set_0 | apply IsS80.set_1 | refine IsS80.far ?_ NB272_273.out _) | exact HI272.out)) hb); (try clear hb)) | (go_at_call 149; (with_reducible refine (impl_isTaken.calls a1 true _ A5.out).mono ?_); rintro e w' ⟨rfl, ⟨nd, rfl⟩⟩; (try (rw [drewN_self w11]; generalize hq_ : World.drewN w11 _ = w11; have n0_ : Aside0 (w11.heap[gb273]? = some (.cells #[.int .i64 0, .int .i64 0] 80 (0, 0))) := ⟨by rw [← hq_]; exact (blkd BK273)⟩; have n1_ : Aside0 (IsS80 w w11 gb272 a0_0 a0_1) := ⟨by rw [← hq_]; exact (by repeat (first | (with_reducible first | exact HI272.out | apply IsS80.alloc | apply IsS80.drewN | apply IsS80.drew | apply IsS80.set_0 | apply IsS80.set_1 | refine IsS80.far ?_ NB272_273.out _) | exact HI272.out))⟩; have n2_ : Aside0 (Below w.heap.size w w11) := ⟨by rw [← hq_]; exact (by repeat (first | (with_reducible first | exact HB.out | apply below_alloc | apply pw_below_drewN | apply below_drew1 | refine below_set ?_ (IsS80.ge HI272.out) | refine below_set ?_ GE273.out) | exact HB.out))⟩; clear BK273 HI272 HB hq_; have BK273 := n0_; have HI272 := n1_; have HB := n2_; clear n0_ n1_ n2_))) | ((with_reducible refine gate_callee (f := 144) rfl ?_); refine goesLa (some 18) rfl Try.func144 #[.pointer (some ⟨gb272, 0, none⟩), .int .i64 a1] rfl ?_; (with_reducible refine (impl_Window_take.calls gb272 a0_0 a0_1 a1 t276 t277 t278 w _ ?side1 ?side2 A7.out).mono ?_); (case side1 => repeat (first | (with_reducible first | exact HI272.out | apply IsS80.alloc | apply IsS80.drewN | apply IsS80.drew | apply IsS80.set_0 | apply IsS80.set_1 | refine IsS80.far ?_ NB272_273.out _) | exact HI272.out)); (case side2 => repeat (first | (with_reducible first | exact HB.out | apply below_alloc | apply pw_below_drewN | apply below_drew1 | refine below_set ?_ (IsS80.ge HI272.out) | refine below_set ?_ GE273.out) | exact HB.out)); rintro e w12 ⟨rfl, hi, hb, hk⟩; refine ⟨_, rfl, ?_⟩; replace BK273 := ak (KeepBut.blk hk (g' := gb273) (blkd BK273) NB273_272.out (by simp)); replace HB := ak (hb); replace HI272 := ak (hi); (try clear hb); (try clear hk); (try clear hi); obtain ⟨HGz13, hgz13⟩ := HI272.out; have hcz13_0 := cellS80_0 HGz13; have hcz13_1 := cellS80_1 HGz13; have hfz13_0 := blk_frozen HGz13 0; have hfz13_1 := blk_frozen HGz13 1; clear HGz13 hgz13; have hnb14 := NB273_272.out; have hnc14 := NB272_273.out; obtain ⟨hcz15_0, hcz15_1, hfz15_0, hfz15_1⟩ := box2 BK273))
   refine bodyPost_ret (results_ctt rfl _ _ gb273 80 #[.int .i64 t277, .int .i64 t278] (0, 0) _ rfl (by (with_reducible repeat (first | refine blk_drewN ?_ _ | refine blk_drew ?_ | refine blk_alloc ?_ _)); refine blk_put (cs := #[.int .i64 t277, .int .i64 0]) ?_ 1 _ rfl; (with_reducible repeat (first | refine blk_drewN ?_ _ | refine blk_drew ?_ | refine blk_alloc ?_ _)); refine blk_put (cs := #[.int .i64 0, .int .i64 0]) ?_ 0 _ rfl; (with_reducible repeat (first | refine blk_drewN ?_ _ | refine blk_drew ?_ | refine blk_alloc ?_ _)); exact BK273.out) Try.underlying80 rfl (by kernel_rfl)) rfl ?_
   exact ⟨er2, by repeat (first | (with_reducible first | exact HB.out | apply below_alloc | apply pw_below_drewN | apply below_drew1 | refine below_set ?_ (IsS80.ge HI272.out) | refine below_set ?_ GE273.out) | exact HB.out)⟩
  ·replace c6 := Bool.eq_false_iff.mpr c6
   subst c6
   have H1 : (some (0, 0, 0, false)) = some (r1, r2, r3, r4) := by rw [if_neg (show ¬ (false = true) by decide)] at H; exact H
   clear H
   have H := H1
   clear H1
   simp only [Option.some.injEq, Prod.mk.injEq] at H
   obtain ⟨rfl, rfl, rfl, rfl⟩ := H
   go_enter Try.func88, Try.ntmps88
   go_wp2_with (first | ((with_reducible refine gate_dst (N := 2) rfl ?_); refine boxev 2 #[.int .i64 a0_0, .int .i64 a0_1] 80 ?_; intro gb272 hg w16 hbox hb; have HI272 := ak ((show IsS80 w w16 gb272 a0_0 a0_1 from IsS80.of_blk hbox (by rw [hg]; exact (below_size (belowd HB))))); replace HB := ak (below_step (belowd HB) hb); clear hb hbox hg) | ((with_reducible refine gate_dst (N := 4) rfl ?_); refine boxev 4 #[.int .i64 0, .int .i64 0] 80 ?_; intro gb273 hg w17 hbox hb; have BK273 := ak (hbox); have GW273 := ak ((by rw [hg]; exact (below_size (by repeat (first | (with_reducible first | exact HB.out | apply below_alloc | apply pw_below_drewN | apply below_drew1 | refine below_set ?_ (IsS80.ge HI272.out)) | exact HB.out))) : w.heap.size ≤ gb273)); have GE273 := ak ((by rw [hg]; exact (below_size (by repeat (first | (with_reducible first | exact HB.out | apply below_alloc | apply pw_below_drewN | apply below_drew1 | refine below_set ?_ (IsS80.ge HI272.out)) | exact HB.out))) : w.heap.size ≤ gb273)); replace HB := ak (below_step (by repeat (first | (with_reducible first | exact HB.out | apply below_alloc | apply pw_below_drewN | apply below_drew1 | refine below_set ?_ (IsS80.ge HI272.out)) | exact HB.out)) hb); have NB272_273 := ak ((by rw [hg]; exact Nat.ne_of_lt (IsS80.lt (show IsS80 w _ gb272 a0_0 a0_1 from by repeat (first | (with_reducible first | exact HI272.out | apply IsS80.alloc | apply IsS80.drewN | apply IsS80.drew | apply IsS80.set_0 | apply IsS80.set_1) | exact HI272.out))) : gb272 ≠ gb273)); have NB273_272 := ak ((by rw [hg]; exact Nat.ne_of_gt (IsS80.lt (show IsS80 w _ gb272 a0_0 a0_1 from by repeat (first | (with_reducible first | exact HI272.out | apply IsS80.alloc | apply IsS80.drewN | apply IsS80.drew | apply IsS80.set_0 | apply IsS80.set_1) | exact HI272.out))) : gb273 ≠ gb272)); replace HI272 := ak (IsS80.below (by repeat (first | (with_reducible first | exact HI272.out | apply IsS80.alloc | apply IsS80.drewN | apply IsS80.drew | apply IsS80.set_0 | apply IsS80.set_1) | exact HI272.out)) hb); clear hb hbox hg; obtain ⟨HGz18, hgz18⟩ := HI272.out; have hcz18_0 := cellS80_0 HGz18; have hcz18_1 := cellS80_1 HGz18; have hfz18_0 := blk_frozen HGz18 0; have hfz18_1 := blk_frozen HGz18 1; clear HGz18 hgz18) | ((with_reducible refine gate_callee (f := 61) rfl ?_); refine goesLa (some 9) rfl Try.func61 #[.agg #[.int .i64 a0_0, .int .i64 a0_1]] rfl ?_; (with_reducible refine (impl_GoodWindow.calls a0_0 a0_1 true _ A3.out).mono ?_); rintro e w19 ⟨rfl, hb⟩; refine ⟨_, rfl, ?_⟩; replace BK273 := ak (blk_below (blkd BK273) hb); replace HB := ak (below_step (by repeat (first | (with_reducible first | exact HB.out | apply below_alloc | apply pw_below_drewN | apply below_drew1 | refine below_set ?_ (IsS80.ge HI272.out) | refine below_set ?_ GE273.out) | exact HB.out)) hb); replace HI272 := ak (IsS80.below (by repeat (first | (with_reducible first | exact HI272.out | apply IsS80.alloc | apply IsS80.drewN | apply IsS80.drew | apply IsS80.set_0 | apply IsS80.set_1 | refine IsS80.far ?_ NB272_273.out _) | exact HI272.out)) hb); (try clear hb)) | (go_at_call 149; (with_reducible refine (impl_isTaken.calls a1 false _ A5.out).mono ?_); rintro e w' ⟨rfl, ⟨nd, rfl⟩⟩; (try (rw [drewN_self w19]; generalize hq_ : World.drewN w19 _ = w19; have n0_ : Aside0 (w19.heap[gb273]? = some (.cells #[.int .i64 0, .int .i64 0] 80 (0, 0))) := ⟨by rw [← hq_]; exact (blkd BK273)⟩; have n1_ : Aside0 (IsS80 w w19 gb272 a0_0 a0_1) := ⟨by rw [← hq_]; exact (by repeat (first | (with_reducible first | exact HI272.out | apply IsS80.alloc | apply IsS80.drewN | apply IsS80.drew | apply IsS80.set_0 | apply IsS80.set_1 | refine IsS80.far ?_ NB272_273.out _) | exact HI272.out))⟩; have n2_ : Aside0 (Below w.heap.size w w19) := ⟨by rw [← hq_]; exact (by repeat (first | (with_reducible first | exact HB.out | apply below_alloc | apply pw_below_drewN | apply below_drew1 | refine below_set ?_ (IsS80.ge HI272.out) | refine below_set ?_ GE273.out) | exact HB.out))⟩; clear BK273 HI272 HB hq_; have BK273 := n0_; have HI272 := n1_; have HB := n2_; clear n0_ n1_ n2_)); have hnb20 := NB273_272.out; have hnc20 := NB272_273.out; obtain ⟨hcz21_0, hcz21_1, hfz21_0, hfz21_1⟩ := box2 BK273))
   refine bodyPost_ret (results_ctt rfl _ _ gb273 80 #[.int .i64 0, .int .i64 0] (0, 0) _ rfl (by (with_reducible repeat (first | refine blk_drewN ?_ _ | refine blk_drew ?_ | refine blk_alloc ?_ _)); refine blk_put (cs := #[.int .i64 0, .int .i64 0]) ?_ 1 _ rfl; (with_reducible repeat (first | refine blk_drewN ?_ _ | refine blk_drew ?_ | refine blk_alloc ?_ _)); refine blk_put (cs := #[.int .i64 0, .int .i64 0]) ?_ 0 _ rfl; (with_reducible repeat (first | refine blk_drewN ?_ _ | refine blk_drew ?_ | refine blk_alloc ?_ _)); exact BK273.out) Try.underlying80 rfl (by kernel_rfl)) rfl ?_
   exact ⟨er2, by repeat (first | (with_reducible first | exact HB.out | apply below_alloc | apply pw_below_drewN | apply below_drew1 | refine below_set ?_ (IsS80.ge HI272.out) | refine below_set ?_ GE273.out) | exact HB.out)⟩
 ·replace c4 := Bool.eq_false_iff.mpr c4
  subst c4
  have H1 : (some (0, 0, 0, false)) = some (r1, r2, r3, r4) := by rw [if_neg (show ¬ (false = true) by decide)] at H; exact H
  clear H
  have H := H1
  clear H1
  simp only [Option.some.injEq, Prod.mk.injEq] at H
  obtain ⟨rfl, rfl, rfl, rfl⟩ := H
  go_enter Try.func88, Try.ntmps88
  go_wp2_with (first | ((with_reducible refine gate_dst (N := 2) rfl ?_); refine boxev 2 #[.int .i64 a0_0, .int .i64 a0_1] 80 ?_; intro gb272 hg w22 hbox hb; have HI272 := ak ((show IsS80 w w22 gb272 a0_0 a0_1 from IsS80.of_blk hbox (by rw [hg]; exact (below_size (belowd HB))))); replace HB := ak (below_step (belowd HB) hb); clear hb hbox hg) | ((with_reducible refine gate_dst (N := 4) rfl ?_); refine boxev 4 #[.int .i64 0, .int .i64 0] 80 ?_; intro gb273 hg w23 hbox hb; have BK273 := ak (hbox); have GW273 := ak ((by rw [hg]; exact (below_size (by repeat (first | (with_reducible first | exact HB.out | apply below_alloc | apply pw_below_drewN | apply below_drew1 | refine below_set ?_ (IsS80.ge HI272.out)) | exact HB.out))) : w.heap.size ≤ gb273)); have GE273 := ak ((by rw [hg]; exact (below_size (by repeat (first | (with_reducible first | exact HB.out | apply below_alloc | apply pw_below_drewN | apply below_drew1 | refine below_set ?_ (IsS80.ge HI272.out)) | exact HB.out))) : w.heap.size ≤ gb273)); replace HB := ak (below_step (by repeat (first | (with_reducible first | exact HB.out | apply below_alloc | apply pw_below_drewN | apply below_drew1 | refine below_set ?_ (IsS80.ge HI272.out)) | exact HB.out)) hb); have NB272_273 := ak ((by rw [hg]; exact Nat.ne_of_lt (IsS80.lt (show IsS80 w _ gb272 a0_0 a0_1 from by repeat (first | (with_reducible first | exact HI272.out | apply IsS80.alloc | apply IsS80.drewN | apply IsS80.drew | apply IsS80.set_0 | apply IsS80.set_1) | exact HI272.out))) : gb272 ≠ gb273)); have NB273_272 := ak ((by rw [hg]; exact Nat.ne_of_gt (IsS80.lt (show IsS80 w _ gb272 a0_0 a0_1 from by repeat (first | (with_reducible first | exact HI272.out | apply IsS80.alloc | apply IsS80.drewN | apply IsS80.drew | apply IsS80.set_0 | apply IsS80.set_1) | exact HI272.out))) : gb273 ≠ gb272)); replace HI272 := ak (IsS80.below (by repeat (first | (with_reducible first | exact HI272.out | apply IsS80.alloc | apply IsS80.drewN | apply IsS80.drew | apply IsS80.set_0 | apply IsS80.set_1) | exact HI272.out)) hb); clear hb hbox hg; obtain ⟨HGz24, hgz24⟩ := HI272.out; have hcz24_0 := cellS80_0 HGz24; have hcz24_1 := cellS80_1 HGz24; have hfz24_0 := blk_frozen HGz24 0; have hfz24_1 := blk_frozen HGz24 1; clear HGz24 hgz24) | ((with_reducible refine gate_callee (f := 61) rfl ?_); refine goesLa (some 9) rfl Try.func61 #[.agg #[.int .i64 a0_0, .int .i64 a0_1]] rfl ?_; (with_reducible refine (impl_GoodWindow.calls a0_0 a0_1 false _ A3.out).mono ?_); rintro e w25 ⟨rfl, hb⟩; refine ⟨_, rfl, ?_⟩; replace BK273 := ak (blk_below (blkd BK273) hb); replace HB := ak (below_step (by repeat (first | (with_reducible first | exact HB.out | apply below_alloc | apply pw_below_drewN | apply below_drew1 | refine below_set ?_ (IsS80.ge HI272.out) | refine below_set ?_ GE273.out) | exact HB.out)) hb); replace HI272 := ak (IsS80.below (by repeat (first | (with_reducible first | exact HI272.out | apply IsS80.alloc | apply IsS80.drewN | apply IsS80.drew | apply IsS80.set_0 | apply IsS80.set_1 | refine IsS80.far ?_ NB272_273.out _) | exact HI272.out)) hb); (try clear hb); have hnb26 := NB273_272.out; have hnc26 := NB272_273.out; obtain ⟨hcz27_0, hcz27_1, hfz27_0, hfz27_1⟩ := box2 BK273))
  refine bodyPost_ret (results_ctt rfl _ _ gb273 80 #[.int .i64 0, .int .i64 0] (0, 0) _ rfl (by (with_reducible repeat (first | refine blk_drewN ?_ _ | refine blk_drew ?_ | refine blk_alloc ?_ _)); refine blk_put (cs := #[.int .i64 0, .int .i64 0]) ?_ 1 _ rfl; (with_reducible repeat (first | refine blk_drewN ?_ _ | refine blk_drew ?_ | refine blk_alloc ?_ _)); refine blk_put (cs := #[.int .i64 0, .int .i64 0]) ?_ 0 _ rfl; (with_reducible repeat (first | refine blk_drewN ?_ _ | refine blk_drew ?_ | refine blk_alloc ?_ _)); exact BK273.out) Try.underlying80 rfl (by kernel_rfl)) rfl ?_
  exact ⟨er2, by repeat (first | (with_reducible first | exact HB.out | apply below_alloc | apply pw_below_drewN | apply below_drew1 | refine below_set ?_ (IsS80.ge HI272.out) | refine below_set ?_ GE273.out) | exact HB.out)⟩

end Go.Proofs.Ytonejnaanklfjaa.QFnTakenOnce
