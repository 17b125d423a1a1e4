-- printed by this session's own program (wip/tools/pp.py: the kit's print.py with changes); Lean checks it
import Derived.Test.YtpibdgknmjjolaaQFnExactOtherCoinsx0
import Derived.Test.YtpibdgknmjjolaaQFnExactOtherCoinsx5
import Derived.Test.YtpibdgknmjjolaaQFnExactOtherCoinsx6
namespace Go.Proofs.Ytpibdgknmjjolaa.QFnExactOtherCoins
open Go.RowKit Go.Proofs.YtpibdgknmjjolaaW.PrintWords Go.Proofs.YtpibdgknmjjolaaW.PrintLast Go.Proofs.YtpibdgknmjjolaaW.PrintMore
attribute [local go_sem] max2_int min2_int max_two min_two max_three min_three max_four min_four strLss strGtr strLeq strGeq   -- for this text's walks alone
set_option linter.unusedVariables false
set_option linter.unusedSimpArgs false

/-! ### impl_Table_far: function 107 -/
mutual
def impl_Table_far.l0 : Nat → List Int → List Int → Int → Int → List (List Int) → List Int → Option (List Int)
  | 0, _, _, _, _, _, _ => none
  | k + 1, x5, x6, x7, x271000, x271001, x271002 => if x7 < (x6.length : Int) then (impl_Table_far.l1 k x5 x6 x7 (x5.length : Int) 0 x271000 x271001 x271002) else (some x5)
def impl_Table_far.l1 : Nat → List Int → List Int → Int → Int → Int → Int → List (List Int) → List Int → Option (List Int)
  | 0, _, _, _, _, _, _, _, _ => none
  | k + 1, x5, x6, x7, x25, x26, x271000, x271001, x271002 => if x26 < x25 then (if 0 ≤ x26 then (if x26 < (x5.length : Int) then (if (rd x5 x26) < 0 then (if 0 ≤ x7 then (if x7 < (x6.length : Int) then ((impl_Table_pair.f k x271000 x271001 x271002 x26 (rd x6 x7)).bind fun t283 => (if t283 ≥ 0 then (if 0 ≤ (rd x6 x7) then (if (rd x6 x7) < (x5.length : Int) then (if x6.length < 17592186044416 then (impl_Table_far.l1 k (x5.set (x26 : Int).toNat (wrap64 ((rd x5 (rd x6 x7)) + 1))) (x6 ++ [x26]) x7 x25 (wrap64 (x26 + 1)) x271000 x271001 x271002) else (none)) else (none)) else (none)) else (impl_Table_far.l1 k x5 x6 x7 x25 (wrap64 (x26 + 1)) x271000 x271001 x271002))) else (none)) else (none)) else (impl_Table_far.l1 k x5 x6 x7 x25 (wrap64 (x26 + 1)) x271000 x271001 x271002)) else (none)) else (none)) else (impl_Table_far.l0 k x5 x6 (wrap64 (x7 + 1)) x271000 x271001 x271002)
end
def impl_Table_far.f (k : Nat) (a0_0 : Int) (l0_1 : List (List Int)) (l0_2 : List Int) (a1 : Int) : Option (List Int) := (slices_Repeat_int_int.f (([(-1)] : List Int)) a0_0).bind fun t274 => (if 0 ≤ a1 then (if a1 < (t274.length : Int) then (impl_Table_far.l0 k (t274.set (a1 : Int).toNat 0) (([a1] : List Int)) 0 a0_0 l0_1 l0_2) else (none)) else (none))
theorem impl_Table_far.mono_l : ∀ k, (∀ y0 y1 y2 y3 y4 y5, LeO (impl_Table_far.l0 k y0 y1 y2 y3 y4 y5) (impl_Table_far.l0 (k + 1) y0 y1 y2 y3 y4 y5)) ∧ (∀ y0 y1 y2 y3 y4 y5 y6 y7, LeO (impl_Table_far.l1 k y0 y1 y2 y3 y4 y5 y6 y7) (impl_Table_far.l1 (k + 1) y0 y1 y2 y3 y4 y5 y6 y7))
 | 0 => ⟨fun _ _ _ _ _ _ r h => by simp [impl_Table_far.l0] at h, fun _ _ _ _ _ _ _ _ r h => by simp [impl_Table_far.l1] at h⟩
 | k + 1 => by
  obtain ⟨ih0, ih1⟩ := impl_Table_far.mono_l k
  refine ⟨?_, ?_⟩
  ·intro y0 y1 y2 y3 y4 y5
   unfold impl_Table_far.l0
   repeat' (first | (with_reducible first | exact ih0 _ _ _ _ _ _ | exact ih1 _ _ _ _ _ _ _ _ | exact impl_Table_pair.mono _ _ _ _ _ _ | exact LeO.refl _ | exact LeO.none _ | refine LeO.ite ?_ ?_ | refine LeO.bind ?_ (fun _ => ?_)) | exact ih0 _ _ _ _ _ _ | exact ih1 _ _ _ _ _ _ _ _ | exact impl_Table_pair.mono _ _ _ _ _ _ | exact LeO.none _ | refine LeO.ite ?_ ?_ | refine LeO.bind ?_ (fun _ => ?_))
  ·intro y0 y1 y2 y3 y4 y5 y6 y7
   unfold impl_Table_far.l1
   repeat' (first | (with_reducible first | exact ih0 _ _ _ _ _ _ | exact ih1 _ _ _ _ _ _ _ _ | exact impl_Table_pair.mono _ _ _ _ _ _ | exact LeO.refl _ | exact LeO.none _ | refine LeO.ite ?_ ?_ | refine LeO.bind ?_ (fun _ => ?_)) | exact ih0 _ _ _ _ _ _ | exact ih1 _ _ _ _ _ _ _ _ | exact impl_Table_pair.mono _ _ _ _ _ _ | exact LeO.none _ | refine LeO.ite ?_ ?_ | refine LeO.bind ?_ (fun _ => ?_))
theorem impl_Table_far.mono : ∀ a0 a1 a2 a3 k, LeO (impl_Table_far.f k a0 a1 a2 a3) (impl_Table_far.f (k + 1) a0 a1 a2 a3) := by
 intro a0 a1 a2 a3 k
 obtain ⟨ih0, ih1⟩ := impl_Table_far.mono_l k
 unfold impl_Table_far.f
 repeat' (first | (with_reducible first | exact ih0 _ _ _ _ _ _ | exact ih1 _ _ _ _ _ _ _ _ | exact impl_Table_pair.mono _ _ _ _ _ _ | exact LeO.refl _ | exact LeO.none _ | refine LeO.ite ?_ ?_ | refine LeO.bind ?_ (fun _ => ?_)) | exact ih0 _ _ _ _ _ _ | exact ih1 _ _ _ _ _ _ _ _ | exact impl_Table_pair.mono _ _ _ _ _ _ | exact LeO.none _ | refine LeO.ite ?_ ?_ | refine LeO.bind ?_ (fun _ => ?_))
def impl_Table_far.T10 : Bool × List (List Nat × List Nat) := (true, [([], []), ([], []), ([0, 1], [0, 1]), ([2], [2]), ([3], [3]), ([4], [4]), ([5], [5]), ([5], [5]), ([5], [5]), ([5], [5]), ([8, 9, 5], [5, 8, 9]), ([10, 5], [5, 10]), ([6, 7, 11, 5, 5], [5, 6, 7, 11]), ([12, 5], [5, 12]), ([5, 13], [5, 13])])
def impl_Table_far.B10 : List Nat := [0, 0, 3, 7, 15, 31, 63, 63, 63, 63, 831, 1855, 4095, 8191, 16383]
theorem impl_Table_far.tab10 : rtab .any (opsOf Try.f107 10) = impl_Table_far.T10 := by kernel_rfl
theorem impl_Table_far.bits10 : waitsOk impl_Table_far.T10.2 impl_Table_far.B10 = true := by kernel_rfl
set_option maxHeartbeats 8000000 in
set_option maxRecDepth 100000 in
theorem impl_Table_far.calls (k : Nat) (a0_0 : Int) (A0_1 : Option Addr) (c0_1 : Nat) (l0_1 : List (List Int)) (A0_2 : Option Addr) (c0_2 : Nat) (l0_2 : List Int) (a1 : Int) (r : List Int) (w : World) (hr0_1 : Kd.C (Kd.slice 3 (Kd.int .i64)) w A0_1 l0_1.length l0_1) (hc0_1 : l0_1.length ≤ c0_1) (hr0_2 : Kd.C (Kd.int .i64) w A0_2 l0_2.length l0_2) (hc0_2 : l0_2.length ≤ c0_2) (h : impl_Table_far.f k a0_0 l0_1 l0_2 a1 = some r) :
  Calls Try.prog 107 #[.agg #[.int .i64 a0_0, .slice A0_1 l0_1.length c0_1, .slice A0_2 l0_2.length c0_2], .int .i64 a1] w fun e w' => ∃ v0_ : Value, e = .returned (v0_) ∧ Kd.R (Kd.int .i64) 3 w' w.heap.size (fun _ => True) v0_ r ∧ Below w.heap.size w w' := by
 have hu38 := Try.underlying38
 have HR0_1 := Aside0.mk hr0_1; have HC0_1 := Aside0.mk hc0_1; clear hr0_1 hc0_1; have HR0_2 := Aside0.mk hr0_2; have HC0_2 := Aside0.mk hc0_2; clear hr0_2 hc0_2
 have HB := Aside0.mk (Below.refl w.heap.size w)
 have H : ((slices_Repeat_int_int.f (([(-1)] : List Int)) a0_0).bind fun t274 => (if 0 ≤ a1 then (if a1 < (t274.length : Int) then (impl_Table_far.l0 k (t274.set (a1 : Int).toNat 0) (([a1] : List Int)) 0 a0_0 l0_1 l0_2) else (none)) else (none))) = some r := h
 clear h
 obtain ⟨y271, hy_⟩ : ∃ y_ : List Int, y_ = (([(-1)] : List Int)) := ⟨_, rfl⟩
 replace H : ((slices_Repeat_int_int.f y271 a0_0).bind fun t274 => (if 0 ≤ a1 then (if a1 < (t274.length : Int) then (impl_Table_far.l0 k (t274.set (a1 : Int).toNat 0) (([a1] : List Int)) 0 a0_0 l0_1 l0_2) else (none)) else (none))) = some r := yH
 have Ny271 := ak hy_; clear hy_; replace H := bS H; obtain ⟨t274, A3, H⟩ := H
 replace H : (if 0 ≤ a1 then (if a1 < (t274.length : Int) then (impl_Table_far.l0 k (t274.set (a1 : Int).toNat 0) (([a1] : List Int)) 0 a0_0 l0_1 l0_2) else (none)) else (none)) = some r := H
 replace H := ifS H; obtain ⟨c4, H⟩ := H; have c4b0 := decide_eq_true c4; clear c4; replace H := ifS H; obtain ⟨c5, H⟩ := H; have c5b0 := decide_eq_true c5; clear c5
 obtain ⟨y277, hy_⟩ : ∃ y_ : List Int, y_ = (t274.set (a1 : Int).toNat 0) := ⟨_, rfl⟩
 replace H : (impl_Table_far.l0 k y277 (([a1] : List Int)) 0 a0_0 l0_1 l0_2) = some r := yH
 have Ny277 := ak hy_; clear hy_
 obtain ⟨y278, hy_⟩ : ∃ y_ : List Int, y_ = (([a1] : List Int)) := ⟨_, rfl⟩
 replace H : (impl_Table_far.l0 k y277 y278 0 a0_0 l0_1 l0_2) = some r := yH
 have Ny278 := ak hy_; clear hy_
 have H' := Aside0.mk H
 clear H
 go_enter Try.func107, Try.ntmps107
 go_wp2_with (first | ((with_reducible refine gate_dst (N := 2) rfl ?_); refine boxev 2 #[.int .i64 a0_0, .slice A0_1 l0_1.length c0_1, .slice A0_2 l0_2.length c0_2] 38 ?_; intro gb270 hg w7 hbox hb; have BK270 := ak (hbox); have GW270 := ak (hgl hg (belowd HB)); have GE270 := ak (hgl hg (belowd HB)); replace HB := ak (below_step (belowd HB) hb); clear hb hbox hg) | ((with_reducible refine gate_dst (N := 9) rfl ?_); refine Kd.R_lit (Kd.int .i64) _ 3 ?hg (N := 9) ?hd (xs := ([(-1)] : List Int)) (inner := [.int .i64 (-1)]) (ok := fun _ => True) (okp := fun _ => True) ?hr ?hp (fun _ hk => hk) trivial (Below.refl _ _) (Nat.le_refl _) (by simp) ?_; (case hd => rfl); (case hg => rfl); (case hr => first | (go_simp; done) | (go_simp; rfl)); (case hp => exact (Reps.one (show Kd.M (Kd.int .i64) _ _ _ (-1) [.int .i64 (-1)] from rfl) (Reps.none _ _))); intro v272 w8 ho9 hb hg_ hnew_; clear hg_ hnew_; (first | rw [← Ny271.out] at ho9 | (simp only [Int.reduceToNat] at ho9; rw [← Ny271.out] at ho9)); have HO273 := ak (Kd.R_lower ho9 (below_size (belowg1 HB GE270))); replace BK270 := ak (blk_below (blkd BK270) hb); replace HB := ak (below_step (belowg1 HB GE270) hb); clear hb ho9; obtain ⟨hcz10_0, hcz10_1, hcz10_2, hfz10_0, hfz10_1, hfz10_2⟩ := box3 BK270; obtain ⟨Ao11, co11, eo11⟩ := Kd.R_slice HO273.out; subst eo11) | ((with_reducible refine gate_callee (f := 143) rfl ?_); refine goesLa (some 12) rfl Try.func143 #[.slice Ao11 y271.length co11, .int .i64 a0_0] rfl ?_; (with_reducible refine (slices_Repeat_int_int.calls _ _ y271 a0_0 t274 _ ?side1 ?side2 A3.out).mono ?_); (case side1 => exact cd (Kd.R_reads' HO273.out).2.2); (case side2 => exact (Kd.R_reads' HO273.out).2.1); rintro e w12 ⟨v275, rfl, ho0, hb⟩; refine ⟨_, rfl, ?_⟩; have HO276 := ak (Kd.R_lower (Kd.R_new' ho0 (Kd.R_lt (rdl HO273))) (below_size (belowg1 HB GE270))); replace HO273 := ak (Kd.R_elder' (rdl HO273) (Kd.R_base ho0) hb); replace BK270 := ak (blk_below (blkd BK270) hb); replace HB := ak (below_step (belowg1 HB GE270) hb); (try clear hb); (try clear ho0); have p6 : 0 ≤ (a1 : Int) := da; have q6 : (a1 : Int) < ((t274.length : Int) : Int) := da; obtain ⟨go6, co6, eo6, gb6, gl6, cl6, HG6⟩ := Kd.R_form HO276.out (by omega); (first | cases eo6 | (injection eo6 with ea_ en_ ec_; (first | subst ea_ | (injection ea_ with ea_; subst ea_)); subst ec_; clear en_)); have GB6 := Aside0.mk gb6; have GG6 := Aside0.mk HG6; clear gb6 gl6 HG6; obtain ⟨hx6_0, hf6_0⟩ := Kd.R_celln 0 HO276.out (a1 : Int) p6 q6; replace p6 := eq_true p6; replace q6 := eq_true q6; have n_ := Aside0.mk (Kd.R_mono (ok' := (fun k_ => some k_ ≠ (.slice Ao11 y271.length co11 : Value).ownBlock)) HO276.out (fun k_ hk => hk.2)); clear HO276; have HO276 := n_; clear n_; obtain ⟨hy13_, hz13_⟩ := Kd.R_celln 0 HO276.out (a1 : Int) (da) (da); have HP13 := Kd.R_putg HO276.out (a1 : Int) 0) | ((with_reducible refine gate_store (t := 3) (p := 15) rfl ?_); refine store_event (t := 3) (p := 15) (v := ?vo_w14) (w1 := (w12.setCell ⟨go6, (a1 : Int).toNat, none⟩ (.int .i64 0))) ?hg ?ho ?hn ?hr ?_; (case ho => rfl); (case hg => rfl); (case hn => rfl); (case hr => first | (go_simp; done) | (go_simp; rfl)); intro w14 hw; have hg : w12.grownBy w14 (some go6) := (by rw [hw]; exact HP13.2); have hp_ : Kd.R (Kd.int .i64) 3 w14 w.heap.size (fun k_ => some k_ ≠ (.slice Ao11 y271.length co11 : Value).ownBlock) (.slice (some ⟨go6, 0, none⟩) t274.length co6) y277 := (by rw [hw, Ny277.out]; exact HP13.1); clear HP13; replace BK270 := ak (blk_grown (blkd BK270) hg (Kd.R_ne HO276.out BK270.out (by decide))); replace HO273 := ak (Kd.R_after (v := (.slice (some ⟨go6, 0, none⟩) t274.length co6)) (v1 := (.slice (some ⟨go6, 0, none⟩) t274.length co6)) (ok := (fun _ => True)) (rdl HO273) hg (.inl rfl)); replace HO276 := ak (hp_); replace HB := ak ((by rw [hw]; exact below_set (HB.out) GB6.out : Below w.heap.size w w14)); clear hg hw hp_) | ((with_reducible refine gate_dst (N := 17) rfl ?_); refine Kd.R_lit (Kd.int .i64) _ 3 ?hg (N := 17) ?hd (xs := ([a1] : List Int)) (inner := [.int .i64 a1]) (ok := fun _ => True) (okp := fun _ => True) ?hr ?hp (fun _ hk => hk) trivial (Below.refl _ _) (Nat.le_refl _) (by simp) ?_; (case hd => rfl); (case hg => rfl); (case hr => first | (go_simp; done) | (go_simp; rfl)); (case hp => exact (Reps.one (show Kd.M (Kd.int .i64) _ _ _ a1 [.int .i64 a1] from rfl) (Reps.none _ _))); intro v279 w15 ho16 hb hg_ hnew_; clear hg_ hnew_; (first | rw [← Ny278.out] at ho16 | (simp only [Int.reduceToNat] at ho16; rw [← Ny278.out] at ho16)); have HO280 := ak (Kd.R_lower (Kd.R_new' (Kd.R_new' ho16 (Kd.R_lt (rdl HO273))) (Kd.R_lt (rdl HO276))) (below_size (belowg1 HB GE270))); replace HO273 := ak (Kd.R_elder' (rdl HO273) (Kd.R_base ho16) hb); replace HO276 := ak (Kd.R_elder' (rdl HO276) (Kd.R_base ho16) hb); replace BK270 := ak (blk_below (blkd BK270) hb); replace HB := ak (below_step (belowg1 HB GE270) hb); clear hb ho16))
 go_loopg [6, 7] k (fun kq v6 v7 w' => ∃ (x5_1 : List Int) (x6_1 : List Int) (x7_1 : Int), v7 = .int .i64 x7_1 ∧ Aside0 (impl_Table_far.l0 kq x5_1 x6_1 x7_1 a0_0 l0_1 l0_2 = some r) ∧ Aside0 (kq ≤ k) ∧ Aside0 (Kd.R (Kd.int .i64) 3 w' w.heap.size (fun k_ => some k_ ≠ (v6 : Value).ownBlock) (.slice (some ⟨go6, 0, none⟩) t274.length co6) x5_1) ∧ Aside0 (Kd.R (Kd.int .i64) 3 w' w.heap.size (fun k_ => some k_ ≠ ((.slice (some ⟨go6, 0, none⟩) t274.length co6) : Value).ownBlock) v6 x6_1) ∧ Aside0 (w'.heap[gb270]? = some (.cells #[.int .i64 a0_0, (.slice A0_1 l0_1.length c0_1), (.slice A0_2 l0_2.length c0_2)] 38 (0, 0))) ∧ Aside0 (Below w.heap.size w w'))
 case atStart => exact ⟨(y277), (y278), (0), er, H', ⟨Nat.le_refl _⟩, ⟨by (with_reducible repeat (first | apply Kd.R_alloc | apply Kd.R_drewN | apply Kd.R_drew)); exact Kd.R_mono HO276.out (fun _ hk => hk.2)⟩, ⟨by (with_reducible repeat (first | apply Kd.R_alloc | apply Kd.R_drewN | apply Kd.R_drew)); exact Kd.R_mono HO280.out (fun _ hk => hk.2)⟩, ⟨blkd BK270⟩, ⟨belowg1 HB GE270⟩⟩
 case round =>
  clear H'
  (try clear c4b0); (try clear c5b0); (try clear p6); (try clear q6); (try clear hcz10_0); (try clear hcz10_1); (try clear hcz10_2); (try clear hfz10_0); (try clear hfz10_1); (try clear hfz10_2); (try clear hx6_0)
  obtain ⟨x5_1, x6_1, x7_1, rfl, HA, HK1, HO_5, HO_6, BK270, HB⟩ := hrel
  have hl5_1 := (Kd.R_reads' HO_5.out).1
  rw [hl5_1] at HO_5
  (try simp only [hl5_1])
  (try simp only [hl5_1] at BK270)
  (try simp only [hl5_1] at HO_6)
  cases gk with
  | zero => exact absurd HA.out (by simp [impl_Table_far.l0])
  | succ k1 =>
   have H := HA.out; clear HA
   simp only [impl_Table_far.l0] at H
   by_cases c17 : x7_1 < (x6_1.length : Int)
   ·rw [if_pos c17] at H
    have c17b0 : decide (x7_1 < (x6_1.length : Int)) = true := decide_eq_true c17
    clear c17
    have H' := Aside0.mk H
    clear H
    obtain ⟨Ao18, co18, eo18⟩ := Kd.R_slice HO_6.out
    subst eo18; go_wp2
    go_loopg [6, 26] k1 (fun kq v6 v26 w' => ∃ (x5_2 : List Int) (x6_2 : List Int) (x26_2 : Int), v26 = .int .i64 x26_2 ∧ Aside0 (impl_Table_far.l1 kq x5_2 x6_2 x7_1 (x5_1.length : Int) x26_2 a0_0 l0_1 l0_2 = some r) ∧ Aside0 (kq ≤ k1) ∧ Aside0 (Kd.R (Kd.int .i64) 3 w' w.heap.size (fun k_ => some k_ ≠ (v6 : Value).ownBlock) (.slice (some ⟨go6, 0, none⟩) x5_1.length co6) x5_2) ∧ Aside0 (Kd.R (Kd.int .i64) 3 w' w.heap.size (fun k_ => some k_ ≠ ((.slice (some ⟨go6, 0, none⟩) x5_1.length co6) : Value).ownBlock) v6 x6_2) ∧ Aside0 (w'.heap[gb270]? = some (.cells #[.int .i64 a0_0, (.slice A0_1 l0_1.length c0_1), (.slice A0_2 l0_2.length c0_2)] 38 (0, 0))) ∧ Aside0 (Below w.heap.size w w'))
    case atStart => exact ⟨(x5_1), (x6_1), (0), er, H', ⟨Nat.le_refl _⟩, ⟨by (try simp only [hl5_1]); (with_reducible repeat (first | apply Kd.R_alloc | apply Kd.R_drewN | apply Kd.R_drew)); exact HO_5.out⟩, ⟨by (try simp only [hl5_1]); (with_reducible repeat (first | apply Kd.R_alloc | apply Kd.R_drewN | apply Kd.R_drew)); exact HO_6.out⟩, ⟨by (try simp only [hl5_1]); (with_reducible repeat (first | refine blk_drewN ?_ _ | refine blk_drew ?_ | refine blk_alloc ?_ _)); exact BK270.out⟩, ⟨belowg1 HB GE270⟩⟩
    case round =>
     clear H'
     (try clear c17b0)
     obtain ⟨x5_2, x6_2, x26_2, rfl, HA, HK2, HO_5, HO_6, BK270, HB⟩ := hrel
     have hl5_2 := (Kd.R_reads' HO_5.out).1
     rw [hl5_2] at HO_5
     (try simp only [hl5_2])
     (try simp only [hl5_2] at BK270)
     (try simp only [hl5_2] at HO_6)
     cases gk with
     | zero => exact absurd HA.out (by simp [impl_Table_far.l1])
     | succ k2 =>
      have H := HA.out; clear HA
      simp only [impl_Table_far.l1] at H
      by_cases c19 : x26_2 < (x5_1.length : Int)
      ·rw [if_pos c19] at H
       have c19b0 : decide (x26_2 < (x5_1.length : Int)) = true := decide_eq_true c19
       clear c19; replace H := ifS H; obtain ⟨c20, H⟩ := H; have c20b0 := decide_eq_true c20; clear c20; replace H := ifS H; obtain ⟨c21, H⟩ := H; have c21b0 := decide_eq_true c21; clear c21
       by_cases c22 : (rd x5_2 x26_2) < 0
       ·rw [if_pos c22] at H
        have c22b0 : decide ((rd x5_2 x26_2) < 0) = true := decide_eq_true c22
        clear c22; replace H := ifS H; obtain ⟨c23, H⟩ := H; have c23b0 := decide_eq_true c23; clear c23; replace H := ifS H; obtain ⟨c24, H⟩ := H; have c24b0 := decide_eq_true c24; clear c24; replace H := bS H; obtain ⟨t283, A25, H⟩ := H
        replace H : (if t283 ≥ 0 then (if 0 ≤ (rd x6_2 x7_1) then (if (rd x6_2 x7_1) < (x5_2.length : Int) then (if x6_2.length < 17592186044416 then (impl_Table_far.l1 k2 (x5_2.set (x26_2 : Int).toNat (wrap64 ((rd x5_2 (rd x6_2 x7_1)) + 1))) (x6_2 ++ [x26_2]) x7_1 (x5_1.length : Int) (wrap64 (x26_2 + 1)) a0_0 l0_1 l0_2) else (none)) else (none)) else (none)) else (impl_Table_far.l1 k2 x5_2 x6_2 x7_1 (x5_1.length : Int) (wrap64 (x26_2 + 1)) a0_0 l0_1 l0_2)) = some r := H
        by_cases c26 : t283 ≥ 0
        ·rw [if_pos c26] at H
         have c26b0 : decide (0 ≤ t283) = true := decide_eq_true c26
         clear c26; replace H := ifS H; obtain ⟨c27, H⟩ := H; have c27b0 := decide_eq_true c27; clear c27; replace H := ifS H; obtain ⟨c28, H⟩ := H; have c28b0 := decide_eq_true c28; clear c28
         obtain ⟨y286, hy_⟩ : ∃ y_ : List Int, y_ = (x5_2.set (x26_2 : Int).toNat (wrap64 ((rd x5_2 (rd x6_2 x7_1)) + 1))) := ⟨_, rfl⟩
         replace H : (if x6_2.length < 17592186044416 then (impl_Table_far.l1 k2 y286 (x6_2 ++ [x26_2]) x7_1 (x5_1.length : Int) (wrap64 (x26_2 + 1)) a0_0 l0_1 l0_2) else (none)) = some r := yH
         have Ny286 := ak hy_; clear hy_; replace H := ifS H; obtain ⟨c30, H⟩ := H; have LMc30 := Aside0.mk c30; clear c30
         obtain ⟨y287, hy_⟩ : ∃ y_ : List Int, y_ = (x6_2 ++ [x26_2]) := ⟨_, rfl⟩
         replace H : (impl_Table_far.l1 k2 y286 y287 x7_1 (x5_1.length : Int) (wrap64 (x26_2 + 1)) a0_0 l0_1 l0_2) = some r := yH
         have Ny287 := ak hy_; clear hy_
         have H' := Aside0.mk H
         clear H
         try go_wp2
         replace HO_5 := ak (Kd.R_drew HO_5.out)
         replace HO_6 := ak (Kd.R_drew HO_6.out)
         replace BK270 := ak (blk_drew BK270.out)
         replace HB := ak (below_drew1 HB.out)
         have p281 : 0 ≤ (x26_2 : Int) := da
         have q281 : x26_2 < (x5_2.length : Int) := da
         obtain ⟨ad281, e281, hx281_0⟩ := Kd.at_int (Kd.R_reads' HO_5.out).2.2 x26_2 p281 q281
         obtain rfl : (⟨go6, 0, none⟩ : Addr) = ad281 := (by injection e281)
         (first | simp only [add_plain] at hx281_0 | simp only [add_at] at hx281_0 | simp only [Addr.add, Nat.zero_add] at hx281_0 | skip)
         replace p281 := eq_true p281; replace q281 := eq_true q281
         obtain ⟨Ao32, co32, eo32⟩ := Kd.R_slice HO_6.out
         (first | subst eo32 | (injection eo32 with f1_ f2_ f3_; have f4_ := f1_.symm; have f5_ := f3_.symm; clear f1_ f2_ f3_; subst f4_; subst f5_))
         have p282 : 0 ≤ (x7_1 : Int) := da
         have q282 : x7_1 < (x6_2.length : Int) := da
         obtain ⟨ad282, e282, hx282_0⟩ := Kd.at_int (Kd.R_reads' HO_6.out).2.2 x7_1 p282 q282
         cases e282
         replace p282 := eq_true p282; replace q282 := eq_true q282
         refine start_ (n := 15) (S := fun w' => w'.cell? ⟨gb270, 0, none⟩ = some (.int .i64 a0_0) ∧ w'.cell? ⟨gb270, 1, none⟩ = some (.slice A0_1 l0_1.length c0_1) ∧ w'.cell? ⟨gb270, 2, none⟩ = some (.slice A0_2 l0_2.length c0_2) ∧ w'.cell? ⟨go6, (x26_2).toNat, none⟩ = some (.int .i64 (rd x5_2 x26_2)) ∧ w'.cell? (ad282.add (x7_1).toNat) = some (.int .i64 (rd x6_2 x7_1))) (ds := []) (bl 15 0) (by kernel_rfl) rfl rfl ⟨bq BK270 0, bq BK270 1, bq BK270 2, hx281_0, hx282_0⟩ (fun hHeld => ?_); refine with_tabW impl_Table_far.tab10 impl_Table_far.bits10 (fun HT_ HW_ => ?_)
         generalize wr.drew = w31 at HO_5 HO_6 BK270 HB hx281_0 hx282_0 hHeld ⊢
         refine pureA 0 (some 29) 15 1 HT_ ?_
         refine pureA 1 (some 30) 15 3 HT_ ?_
         refine pureA 2 (some 31) 15 7 HT_ ?_
         refine takeA 3 (some 32) 15 15 HT_ HW_ hHeld ?_ (hy := by rintro w' ⟨s0, s1, s2, s3, s4⟩; go_simp; with_reducible rfl)
         refine pureA 4 (some 33) 15 31 HT_ ?_
         refine pureA 5 (some 34) 15 63 HT_ ?_
         refine pureA 7 (some 36) 15 191 HT_ ?_
         refine pureA 8 (some 37) 15 447 HT_ ?_
         refine pureA 9 (some 38) 15 959 HT_ ?_
         refine pureA 10 (some 39) 15 1983 HT_ ?_
         refine takeA 6 (some 35) 15 2047 HT_ HW_ hHeld ?_ (hy := by rintro w' ⟨s0, s1, s2, s3, s4⟩; go_simp; with_reducible rfl)
         refine takeA 11 (some 40) 15 4095 HT_ HW_ hHeld ?_ (hy := by rintro w' ⟨s0, s1, s2, s3, s4⟩; go_simp; with_reducible rfl)
         refine oneA 12 (some 41) 15 8191 HT_ (fun K hK => ?_)
         refine goes_ Try.func144 (by kernel_rfl) rfl #[.agg #[.int .i64 a0_0, .slice A0_1 l0_1.length c0_1, .slice A0_2 l0_2.length c0_2], .int .i64 x26_2, .int .i64 (rd x6_2 x7_1)] (by rfl) rfl rfl (by (try simp only [List.map_toArray, List.map_cons, List.map_nil]); first | done | rfl | (simp only [List.length_drop, List.length_take]; rfl)) ?_
         with_reducible refine (impl_Table_pair.calls k2 a0_0 _ _ l0_1 _ _ l0_2 x26_2 (rd x6_2 x7_1) t283 _ ?side1 ?side2 ?side3 ?side4 A25.out).mono ?_
         (case side1 => exact cd (Kd.C_below HR0_1.out HB.out))
         (case side2 => exact HC0_1.out)
         (case side3 => exact cd (Kd.C_below HR0_2.out HB.out))
         (case side4 => exact HC0_2.out)
         rintro e w33 ⟨rfl, hb⟩
         have HS3_ := (hb.cell (World.block_lt_of_cell? _ _ (hHeld.2.2.2.1))).trans (hHeld.2.2.2.1)
         have HS4_ := (hb.cell (World.block_lt_of_cell? _ _ (hHeld.2.2.2.2))).trans (hHeld.2.2.2.2)
         refine ⟨_, rfl, ?_⟩
         replace HO_5 := ak (Kd.R_below (rdl HO_5) hb)
         replace HO_6 := ak (Kd.R_below (rdl HO_6) hb)
         replace BK270 := ak (blk_below (blkd BK270) hb)
         replace HB := ak (below_step (belowg1 HB GE270) hb)
         (try clear hb); (try clear hb2); (try clear hk); (try clear hi)
         refine hK.out _ _ ⟨bq BK270 0, bq BK270 1, bq BK270 2, HS3_, HS4_⟩ (fun hHeld => ?_)
         clear hK K
         refine norm_ (a' := ?_) ?_ ?_
         rotate_left
         ·show Act.put _ (some 41) _ = _
          simp only [Act.put, List.setIfInBounds_toArray, List.set_cons_zero, List.set_cons_succ, i64_w, i32_w]
          rfl
         refine pureA 13 (some 42) 15 16383 HT_ ?_
         refine pureA 14 (some 43) 15 32767 HT_ ?_
         refine done_ (done_of HT_.out (by kernel_rfl)) ?_
         have p284 : 0 ≤ (x7_1 : Int) := da
         have q284 : x7_1 < (x6_2.length : Int) := da
         obtain ⟨ad284, e284, hx284_0⟩ := Kd.at_int (Kd.R_reads' HO_6.out).2.2 x7_1 p284 q284
         obtain rfl : ad282 = ad284 := (by injection e284)
         replace p284 := eq_true p284; replace q284 := eq_true q284
         have p285 : 0 ≤ ((rd x6_2 x7_1) : Int) := da
         have q285 : (rd x6_2 x7_1) < (x5_2.length : Int) := da
         obtain ⟨ad285, e285, hx285_0⟩ := Kd.at_int (Kd.R_reads' HO_5.out).2.2 (rd x6_2 x7_1) p285 q285
         obtain rfl : (⟨go6, 0, none⟩ : Addr) = ad285 := (by injection e285)
         (first | simp only [add_plain] at hx285_0 | simp only [add_at] at hx285_0 | simp only [Addr.add, Nat.zero_add] at hx285_0 | skip)
         replace p285 := eq_true p285; replace q285 := eq_true q285
         have p29 : 0 ≤ (x26_2 : Int) := da
         have q29 : (x26_2 : Int) < ((x5_2.length : Int) : Int) := da
         obtain ⟨hx29_0, hf29_0⟩ := Kd.R_celln 0 HO_5.out (x26_2 : Int) p29 q29
         replace p29 := eq_true p29; replace q29 := eq_true q29
         obtain ⟨hy34_, hz34_⟩ := Kd.R_celln 0 HO_5.out (x26_2 : Int) (da) (da)
         have HP34 := Kd.R_putg HO_5.out (x26_2 : Int) (wrap64 ((rd x5_2 (rd x6_2 x7_1)) + 1))
         try go_wp2_with (first | ((with_reducible refine gate_store (t := 3) (p := 54) rfl ?_); refine store_event (t := 3) (p := 54) (v := ?vo_w35) (w1 := (w33.setCell ⟨go6, (x26_2 : Int).toNat, none⟩ (.int .i64 (wrap64 ((rd x5_2 (rd x6_2 x7_1)) + 1))))) ?hg ?ho ?hn ?hr ?_; (case ho => rfl); (case hg => rfl); (case hn => rfl); (case hr => first | (go_simp; done) | (go_simp; rfl)); intro w35 hw; have hg : w33.grownBy w35 (some go6) := (by rw [hw]; exact HP34.2); have hp_ : Kd.R (Kd.int .i64) 3 w35 w.heap.size (fun k_ => some k_ ≠ (.slice (some ad282) x6_2.length co32 : Value).ownBlock) (.slice (some ⟨go6, 0, none⟩) x5_2.length co6) y286 := (by rw [hw, Ny286.out]; exact HP34.1); clear HP34; replace HO_6 := ak (Kd.R_after (v := (.slice (some ⟨go6, 0, none⟩) x5_2.length co6)) (v1 := (.slice (some ⟨go6, 0, none⟩) x5_2.length co6)) (ok := (fun _ => True)) (by (with_reducible repeat (first | apply Kd.R_alloc | apply Kd.R_drewN | apply Kd.R_drew)); exact Kd.R_mono HO_6.out (fun _ hk => ⟨trivial, hk⟩)) hg (.inl rfl)); replace BK270 := ak (blk_grown (blkd BK270) hg (Kd.R_ne HO_5.out BK270.out (by decide))); replace HO_5 := ak (hp_); replace HB := ak ((by rw [hw]; exact below_set (HB.out) GB6.out : Below w.heap.size w w35)); clear hg hw hp_) | ((with_reducible refine gate_builtin (b := .append) (xs := #[.tmp 55, .tmp 57]) rfl ?_); at_builtin; refine Kd.R_append (Kd.int .i64) (w0 := w) w.heap.size rfl (.tmp 55) (.tmp 57) 22 3 (.int .i64 0) 8 rfl Try.underlying22 info3 rfl (by decide) (by omega) (.slice (some ad282) x6_2.length co32) x6_2 x26_2 [.int .i64 x26_2] (fun k_ => some k_ ≠ (.slice (some ⟨go6, 0, none⟩) x5_2.length co6 : Value).ownBlock) (fun _ => False) rfl rfl ?aP (fun _ hk => hk.elim) ?aF ?aO ?aB ?aS ?aL ?_; (case aP => exact rfl); (case aB => exact (belowg1 HB GE270)); (case aF => exact (fun k_ hk => Kd.fresh' (Kd.R_lt (rdl HO_5)) k_ hk)); (case aO => exact (by (with_reducible repeat (first | apply Kd.R_alloc | apply Kd.R_drewN | apply Kd.R_drew)); exact Kd.R_mono HO_6.out (fun _ hk => hk.2))); (case aS => exact (below_size (belowg1 HB GE270))); (case aL => have := LMc30.out; omega); intro v288 w36 ho hb hg hat; rw [← Ny287.out] at ho; replace HO_5 := ak (Kd.R_after (ok := (fun _ => True)) (by (with_reducible repeat (first | apply Kd.R_alloc | apply Kd.R_drewN | apply Kd.R_drew)); exact Kd.R_mono HO_5.out (fun _ hk => ⟨trivial, hk⟩)) hg hat); replace BK270 := ak (blk_grown (blkd BK270) hg (Kd.R_ne HO_6.out BK270.out (by decide))); replace HB := ak (hb); have HO289 := ak (ho); clear HO_6; clear ho hb hg hat))
         (try simp only [← hl5_2])
         go_roundg k2
         case measure => have := HK1.out; have := HK2.out; omega
         case rel => exact ⟨(y286), (y287), (wrap64 (x26_2 + 1)), er, H', ⟨by have := HK1.out; have := HK2.out; omega⟩, ⟨by (try simp only [hl5_1]); (try simp only [hl5_2]); (with_reducible repeat (first | apply Kd.R_alloc | apply Kd.R_drewN | apply Kd.R_drew)); exact Kd.R_mono HO_5.out (fun _ hk => hk.2)⟩, ⟨by (try simp only [hl5_1]); (try simp only [hl5_2]); (with_reducible repeat (first | apply Kd.R_alloc | apply Kd.R_drewN | apply Kd.R_drew)); exact HO289.out⟩, ⟨by (try simp only [hl5_1]); (try simp only [hl5_2]); (with_reducible repeat (first | refine blk_drewN ?_ _ | refine blk_drew ?_ | refine blk_alloc ?_ _)); exact BK270.out⟩, ⟨belowg1 HB GE270⟩⟩
        ·rw [if_neg c26] at H
         have c26b0 : decide (0 ≤ t283) = false := decide_eq_false c26
         clear c26
         have H' := Aside0.mk H
         clear H
         try go_wp2
         replace HO_5 := ak (Kd.R_drew HO_5.out)
         replace HO_6 := ak (Kd.R_drew HO_6.out)
         replace BK270 := ak (blk_drew BK270.out)
         replace HB := ak (below_drew1 HB.out)
         have p281 : 0 ≤ (x26_2 : Int) := da
         have q281 : x26_2 < (x5_2.length : Int) := da
         obtain ⟨ad281, e281, hx281_0⟩ := Kd.at_int (Kd.R_reads' HO_5.out).2.2 x26_2 p281 q281
         obtain rfl : (⟨go6, 0, none⟩ : Addr) = ad281 := (by injection e281)
         (first | simp only [add_plain] at hx281_0 | simp only [add_at] at hx281_0 | simp only [Addr.add, Nat.zero_add] at hx281_0 | skip)
         replace p281 := eq_true p281; replace q281 := eq_true q281
         obtain ⟨Ao38, co38, eo38⟩ := Kd.R_slice HO_6.out
         (first | subst eo38 | (injection eo38 with f1_ f2_ f3_; have f4_ := f1_.symm; have f5_ := f3_.symm; clear f1_ f2_ f3_; subst f4_; subst f5_))
         have p282 : 0 ≤ (x7_1 : Int) := da
         have q282 : x7_1 < (x6_2.length : Int) := da
         obtain ⟨ad282, e282, hx282_0⟩ := Kd.at_int (Kd.R_reads' HO_6.out).2.2 x7_1 p282 q282
         cases e282
         replace p282 := eq_true p282; replace q282 := eq_true q282
         refine start_ (n := 15) (S := fun w' => w'.cell? ⟨gb270, 0, none⟩ = some (.int .i64 a0_0) ∧ w'.cell? ⟨gb270, 1, none⟩ = some (.slice A0_1 l0_1.length c0_1) ∧ w'.cell? ⟨gb270, 2, none⟩ = some (.slice A0_2 l0_2.length c0_2) ∧ w'.cell? ⟨go6, (x26_2).toNat, none⟩ = some (.int .i64 (rd x5_2 x26_2)) ∧ w'.cell? (ad282.add (x7_1).toNat) = some (.int .i64 (rd x6_2 x7_1))) (ds := []) (bl 15 0) (by kernel_rfl) rfl rfl ⟨bq BK270 0, bq BK270 1, bq BK270 2, hx281_0, hx282_0⟩ (fun hHeld => ?_); refine with_tabW impl_Table_far.tab10 impl_Table_far.bits10 (fun HT_ HW_ => ?_)
         generalize wr.drew = w37 at HO_5 HO_6 BK270 HB hx281_0 hx282_0 hHeld ⊢
         refine pureA 0 (some 29) 15 1 HT_ ?_
         refine pureA 1 (some 30) 15 3 HT_ ?_
         refine pureA 2 (some 31) 15 7 HT_ ?_
         refine takeA 3 (some 32) 15 15 HT_ HW_ hHeld ?_ (hy := by rintro w' ⟨s0, s1, s2, s3, s4⟩; go_simp; with_reducible rfl)
         refine pureA 4 (some 33) 15 31 HT_ ?_
         refine pureA 5 (some 34) 15 63 HT_ ?_
         refine pureA 7 (some 36) 15 191 HT_ ?_
         refine pureA 8 (some 37) 15 447 HT_ ?_
         refine pureA 9 (some 38) 15 959 HT_ ?_
         refine pureA 10 (some 39) 15 1983 HT_ ?_
         refine takeA 6 (some 35) 15 2047 HT_ HW_ hHeld ?_ (hy := by rintro w' ⟨s0, s1, s2, s3, s4⟩; go_simp; with_reducible rfl)
         refine takeA 11 (some 40) 15 4095 HT_ HW_ hHeld ?_ (hy := by rintro w' ⟨s0, s1, s2, s3, s4⟩; go_simp; with_reducible rfl)
         refine oneA 12 (some 41) 15 8191 HT_ (fun K hK => ?_)
         refine goes_ Try.func144 (by kernel_rfl) rfl #[.agg #[.int .i64 a0_0, .slice A0_1 l0_1.length c0_1, .slice A0_2 l0_2.length c0_2], .int .i64 x26_2, .int .i64 (rd x6_2 x7_1)] (by rfl) rfl rfl (by (try simp only [List.map_toArray, List.map_cons, List.map_nil]); first | done | rfl | (simp only [List.length_drop, List.length_take]; rfl)) ?_
         with_reducible refine (impl_Table_pair.calls k2 a0_0 _ _ l0_1 _ _ l0_2 x26_2 (rd x6_2 x7_1) t283 _ ?side1 ?side2 ?side3 ?side4 A25.out).mono ?_
         (case side1 => exact cd (Kd.C_below HR0_1.out HB.out))
         (case side2 => exact HC0_1.out)
         (case side3 => exact cd (Kd.C_below HR0_2.out HB.out))
         (case side4 => exact HC0_2.out)
         rintro e w39 ⟨rfl, hb⟩
         have HS3_ := (hb.cell (World.block_lt_of_cell? _ _ (hHeld.2.2.2.1))).trans (hHeld.2.2.2.1)
         have HS4_ := (hb.cell (World.block_lt_of_cell? _ _ (hHeld.2.2.2.2))).trans (hHeld.2.2.2.2)
         refine ⟨_, rfl, ?_⟩
         replace HO_5 := ak (Kd.R_below (rdl HO_5) hb)
         replace HO_6 := ak (Kd.R_below (rdl HO_6) hb)
         replace BK270 := ak (blk_below (blkd BK270) hb)
         replace HB := ak (below_step (belowg1 HB GE270) hb)
         (try clear hb); (try clear hb2); (try clear hk); (try clear hi)
         refine hK.out _ _ ⟨bq BK270 0, bq BK270 1, bq BK270 2, HS3_, HS4_⟩ (fun hHeld => ?_)
         clear hK K
         refine norm_ (a' := ?_) ?_ ?_
         rotate_left
         ·show Act.put _ (some 41) _ = _
          simp only [Act.put, List.setIfInBounds_toArray, List.set_cons_zero, List.set_cons_succ, i64_w, i32_w]
          rfl
         refine pureA 13 (some 42) 15 16383 HT_ ?_
         refine pureA 14 (some 43) 15 32767 HT_ ?_
         refine done_ (done_of HT_.out (by kernel_rfl)) ?_
         try go_wp2
         (try simp only [← hl5_2])
         go_roundg k2
         case measure => have := HK1.out; have := HK2.out; omega
         case rel => exact ⟨(x5_2), (x6_2), (wrap64 (x26_2 + 1)), er, H', ⟨by have := HK1.out; have := HK2.out; omega⟩, ⟨by (try simp only [hl5_1]); (try simp only [hl5_2]); (with_reducible repeat (first | apply Kd.R_alloc | apply Kd.R_drewN | apply Kd.R_drew)); exact HO_5.out⟩, ⟨by (try simp only [hl5_1]); (try simp only [hl5_2]); (with_reducible repeat (first | apply Kd.R_alloc | apply Kd.R_drewN | apply Kd.R_drew)); exact HO_6.out⟩, ⟨by (try simp only [hl5_1]); (try simp only [hl5_2]); (with_reducible repeat (first | refine blk_drewN ?_ _ | refine blk_drew ?_ | refine blk_alloc ?_ _)); exact BK270.out⟩, ⟨belowg1 HB GE270⟩⟩
       ·rw [if_neg c22] at H
        have c22b0 : decide ((rd x5_2 x26_2) < 0) = false := decide_eq_false c22
        clear c22
        have H' := Aside0.mk H
        clear H
        try go_wp2
        replace HO_5 := ak (Kd.R_drew HO_5.out)
        replace HO_6 := ak (Kd.R_drew HO_6.out)
        replace BK270 := ak (blk_drew BK270.out)
        replace HB := ak (below_drew1 HB.out)
        have p281 : 0 ≤ (x26_2 : Int) := da
        have q281 : x26_2 < (x5_2.length : Int) := da
        obtain ⟨ad281, e281, hx281_0⟩ := Kd.at_int (Kd.R_reads' HO_5.out).2.2 x26_2 p281 q281
        obtain rfl : (⟨go6, 0, none⟩ : Addr) = ad281 := (by injection e281)
        (first | simp only [add_plain] at hx281_0 | simp only [add_at] at hx281_0 | simp only [Addr.add, Nat.zero_add] at hx281_0 | skip)
        replace p281 := eq_true p281; replace q281 := eq_true q281
        refine start_ (n := 15) (S := fun w' => w'.cell? ⟨go6, (x26_2).toNat, none⟩ = some (.int .i64 (rd x5_2 x26_2))) (ds := []) (bl 15 0) (by kernel_rfl) rfl rfl (hx281_0) (fun hHeld => ?_); refine with_tabW impl_Table_far.tab10 impl_Table_far.bits10 (fun HT_ HW_ => ?_)
        generalize wr.drew = w40 at HO_5 HO_6 BK270 HB hx281_0 hHeld ⊢
        refine pureA 0 (some 29) 15 1 HT_ ?_
        refine pureA 1 (some 30) 15 3 HT_ ?_
        refine pureA 2 (some 31) 15 7 HT_ ?_
        refine takeA 3 (some 32) 15 15 HT_ HW_ hHeld ?_ (hy := by intro w' s0; go_simp; with_reducible rfl)
        refine pureA 4 (some 33) 15 31 HT_ ?_
        refine pureA 5 (some 34) 15 63 HT_ ?_
        refine pureB 6 (some 35) 15 127 HT_ ?_
        refine pureB 7 (some 36) 15 255 HT_ ?_
        refine pureB 8 (some 37) 15 511 HT_ ?_
        refine pureB 9 (some 38) 15 1023 HT_ ?_
        refine pureB 10 (some 39) 15 2047 HT_ ?_
        refine pureB 11 (some 40) 15 4095 HT_ ?_
        refine pureB 12 (some 41) 15 8191 HT_ ?_
        refine pureB 13 (some 42) 15 16383 HT_ ?_
        refine pureA 14 (some 43) 15 32767 HT_ ?_
        refine done_ (done_of HT_.out (by kernel_rfl)) ?_
        try go_wp2
        (try simp only [← hl5_2])
        go_roundg k2
        case measure => have := HK1.out; have := HK2.out; omega
        case rel => exact ⟨(x5_2), (x6_2), (wrap64 (x26_2 + 1)), er, H', ⟨by have := HK1.out; have := HK2.out; omega⟩, ⟨by (try simp only [hl5_1]); (try simp only [hl5_2]); (with_reducible repeat (first | apply Kd.R_alloc | apply Kd.R_drewN | apply Kd.R_drew)); exact HO_5.out⟩, ⟨by (try simp only [hl5_1]); (try simp only [hl5_2]); (with_reducible repeat (first | apply Kd.R_alloc | apply Kd.R_drewN | apply Kd.R_drew)); exact HO_6.out⟩, ⟨by (try simp only [hl5_1]); (try simp only [hl5_2]); (with_reducible repeat (first | refine blk_drewN ?_ _ | refine blk_drew ?_ | refine blk_alloc ?_ _)); exact BK270.out⟩, ⟨belowg1 HB GE270⟩⟩
      ·rw [if_neg c19] at H
       have c19b0 : decide (x26_2 < (x5_1.length : Int)) = false := decide_eq_false c19
       have c19b0s := c19b0
       (try simp only [hl5_1, hl5_2] at c19b0s)
       clear c19
       have H' := Aside0.mk H
       clear H; go_wp2
       (try simp only [← hl5_1, ← hl5_2])
       go_roundg k2
       case measure => have := HK1.out; have := HK2.out; omega
       case rel => exact ⟨(x5_2), (x6_2), (wrap64 (x7_1 + 1)), er, H', ⟨by have := HK1.out; have := HK2.out; omega⟩, ⟨by (try simp only [hl5_1]); (try simp only [hl5_2]); (with_reducible repeat (first | apply Kd.R_alloc | apply Kd.R_drewN | apply Kd.R_drew)); exact HO_5.out⟩, ⟨by (try simp only [hl5_1]); (try simp only [hl5_2]); (with_reducible repeat (first | apply Kd.R_alloc | apply Kd.R_drewN | apply Kd.R_drew)); exact HO_6.out⟩, ⟨by (try simp only [hl5_1]); (try simp only [hl5_2]); (with_reducible repeat (first | refine blk_drewN ?_ _ | refine blk_drew ?_ | refine blk_alloc ?_ _)); exact BK270.out⟩, ⟨belowg1 HB GE270⟩⟩
   ·rw [if_neg c17] at H
    have c17b0 : decide (x7_1 < (x6_1.length : Int)) = false := decide_eq_false c17
    have c17b0s := c17b0
    (try simp only [hl5_1] at c17b0s)
    clear c17
    obtain rfl := Option.some.inj H
    obtain ⟨Ao41, co41, eo41⟩ := Kd.R_slice HO_6.out
    subst eo41; go_wp2
    go_ret
    exact ⟨_, er2, by (with_reducible repeat (first | apply Kd.R_alloc | apply Kd.R_drewN | apply Kd.R_drew)); exact Kd.R_mono HO_5.out (fun _ hk => trivial), belowg1 HB GE270⟩

/-! ### impl_Table_way: function 111 -/
mutual
def impl_Table_way.l0 : Nat → Int → Int → List Int → List Int → Int → List (List Int) → List Int → Option (List Int × Bool)
  | 0, _, _, _, _, _, _, _ => none
  | k + 1, x1, x2, x8, x9, x291000, x291001, x291002 => if x1 = x2 then (some (x9, true)) else (impl_Table_way.l1 k x1 x2 x8 x9 0 x291000 x291001 x291002)
def impl_Table_way.l1 : Nat → Int → Int → List Int → List Int → Int → Int → List (List Int) → List Int → Option (List Int × Bool)
  | 0, _, _, _, _, _, _, _, _ => none
  | k + 1, x1, x2, x8, x9, x10, x291000, x291001, x291002 => if 0 ≤ x10 then (if x10 < (x8.length : Int) then (if 0 ≤ x1 then (if x1 < (x8.length : Int) then (if (rd x8 x10) = (wrap64 ((rd x8 x1) - 1)) then ((impl_Table_pair.f k x291000 x291001 x291002 x1 x10).bind fun t300 => (if t300 < 0 then (impl_Table_way.l1 k x1 x2 x8 x9 (wrap64 (x10 + 1)) x291000 x291001 x291002) else ((impl_Table_pair.f k x291000 x291001 x291002 x1 x10).bind fun t301 => (if x9.length < 17592186044416 then (impl_Table_way.l0 k x10 x2 x8 (x9 ++ [t301]) x291000 x291001 x291002) else (none))))) else (impl_Table_way.l1 k x1 x2 x8 x9 (wrap64 (x10 + 1)) x291000 x291001 x291002)) else (none)) else (none)) else (none)) else (none)
end
def impl_Table_way.f (k : Nat) (a0_0 : Int) (l0_1 : List (List Int)) (l0_2 : List Int) (a1 : Int) (a2 : Int) : Option (List Int × Bool) := (impl_Table_far.f k a0_0 l0_1 l0_2 a2).bind fun t291 => (if 0 ≤ a1 then (if a1 < (t291.length : Int) then (if (rd t291 a1) < 0 then (some (([] : List Int), false)) else (impl_Table_way.l0 k a1 a2 t291 (([] : List Int)) a0_0 l0_1 l0_2)) else (none)) else (none))
theorem impl_Table_way.mono_l : ∀ k, (∀ y0 y1 y2 y3 y4 y5 y6, LeO (impl_Table_way.l0 k y0 y1 y2 y3 y4 y5 y6) (impl_Table_way.l0 (k + 1) y0 y1 y2 y3 y4 y5 y6)) ∧ (∀ y0 y1 y2 y3 y4 y5 y6 y7, LeO (impl_Table_way.l1 k y0 y1 y2 y3 y4 y5 y6 y7) (impl_Table_way.l1 (k + 1) y0 y1 y2 y3 y4 y5 y6 y7))
 | 0 => ⟨fun _ _ _ _ _ _ _ r h => by simp [impl_Table_way.l0] at h, fun _ _ _ _ _ _ _ _ r h => by simp [impl_Table_way.l1] at h⟩
 | k + 1 => by
  obtain ⟨ih0, ih1⟩ := impl_Table_way.mono_l k
  refine ⟨?_, ?_⟩
  ·intro y0 y1 y2 y3 y4 y5 y6
   unfold impl_Table_way.l0
   repeat' (first | (with_reducible first | exact ih0 _ _ _ _ _ _ _ | exact ih1 _ _ _ _ _ _ _ _ | exact impl_Table_far.mono _ _ _ _ _ | exact impl_Table_pair.mono _ _ _ _ _ _ | exact LeO.refl _ | exact LeO.none _ | refine LeO.ite ?_ ?_ | refine LeO.bind ?_ (fun _ => ?_)) | exact ih0 _ _ _ _ _ _ _ | exact ih1 _ _ _ _ _ _ _ _ | exact impl_Table_far.mono _ _ _ _ _ | exact impl_Table_pair.mono _ _ _ _ _ _ | exact LeO.none _ | refine LeO.ite ?_ ?_ | refine LeO.bind ?_ (fun _ => ?_))
  ·intro y0 y1 y2 y3 y4 y5 y6 y7
   unfold impl_Table_way.l1
   repeat' (first | (with_reducible first | exact ih0 _ _ _ _ _ _ _ | exact ih1 _ _ _ _ _ _ _ _ | exact impl_Table_far.mono _ _ _ _ _ | exact impl_Table_pair.mono _ _ _ _ _ _ | exact LeO.refl _ | exact LeO.none _ | refine LeO.ite ?_ ?_ | refine LeO.bind ?_ (fun _ => ?_)) | exact ih0 _ _ _ _ _ _ _ | exact ih1 _ _ _ _ _ _ _ _ | exact impl_Table_far.mono _ _ _ _ _ | exact impl_Table_pair.mono _ _ _ _ _ _ | exact LeO.none _ | refine LeO.ite ?_ ?_ | refine LeO.bind ?_ (fun _ => ?_))
theorem impl_Table_way.mono : ∀ a0 a1 a2 a3 a4 k, LeO (impl_Table_way.f k a0 a1 a2 a3 a4) (impl_Table_way.f (k + 1) a0 a1 a2 a3 a4) := by
 intro a0 a1 a2 a3 a4 k
 obtain ⟨ih0, ih1⟩ := impl_Table_way.mono_l k
 unfold impl_Table_way.f
 repeat' (first | (with_reducible first | exact ih0 _ _ _ _ _ _ _ | exact ih1 _ _ _ _ _ _ _ _ | exact impl_Table_far.mono _ _ _ _ _ | exact impl_Table_pair.mono _ _ _ _ _ _ | exact LeO.refl _ | exact LeO.none _ | refine LeO.ite ?_ ?_ | refine LeO.bind ?_ (fun _ => ?_)) | exact ih0 _ _ _ _ _ _ _ | exact ih1 _ _ _ _ _ _ _ _ | exact impl_Table_far.mono _ _ _ _ _ | exact impl_Table_pair.mono _ _ _ _ _ _ | exact LeO.none _ | refine LeO.ite ?_ ?_ | refine LeO.bind ?_ (fun _ => ?_))
def impl_Table_way.T6 : Bool × List (List Nat × List Nat) := (true, [([], []), ([], []), ([0, 1], [0, 1]), ([2], [2]), ([], []), ([], []), ([4, 5], [4, 5]), ([6], [6]), ([7], [7]), ([3, 8], [3, 8]), ([9], [9]), ([10], [10]), ([10], [10]), ([10], [10]), ([11, 12, 13, 10, 10], [10, 11, 12, 13]), ([14, 10], [10, 14]), ([10, 15], [10, 15])])
def impl_Table_way.B6 : List Nat := [0, 0, 3, 7, 0, 0, 48, 112, 240, 511, 1023, 2047, 2047, 2047, 16383, 32767, 65535]
theorem impl_Table_way.tab6 : rtab .any (opsOf Try.f111 6) = impl_Table_way.T6 := by kernel_rfl
theorem impl_Table_way.bits6 : waitsOk impl_Table_way.T6.2 impl_Table_way.B6 = true := by kernel_rfl
set_option maxHeartbeats 8000000 in
set_option maxRecDepth 100000 in
theorem impl_Table_way.calls (k : Nat) (a0_0 : Int) (A0_1 : Option Addr) (c0_1 : Nat) (l0_1 : List (List Int)) (A0_2 : Option Addr) (c0_2 : Nat) (l0_2 : List Int) (a1 : Int) (a2 : Int) (r1 : List Int) (r2 : Bool) (w : World) (hr0_1 : Kd.C (Kd.slice 3 (Kd.int .i64)) w A0_1 l0_1.length l0_1) (hc0_1 : l0_1.length ≤ c0_1) (hr0_2 : Kd.C (Kd.int .i64) w A0_2 l0_2.length l0_2) (hc0_2 : l0_2.length ≤ c0_2) (h : impl_Table_way.f k a0_0 l0_1 l0_2 a1 a2 = some (r1, r2)) :
  Calls Try.prog 111 #[.agg #[.int .i64 a0_0, .slice A0_1 l0_1.length c0_1, .slice A0_2 l0_2.length c0_2], .int .i64 a1, .int .i64 a2] w fun e w' => ∃ v0_ : Value, e = .returned (.tuple #[v0_, .bool r2]) ∧ Kd.R (Kd.int .i64) 3 w' w.heap.size (fun _ => True) v0_ r1 ∧ Below w.heap.size w w' := by
 have hu38 := Try.underlying38
 have HR0_1 := Aside0.mk hr0_1; have HC0_1 := Aside0.mk hc0_1; clear hr0_1 hc0_1; have HR0_2 := Aside0.mk hr0_2; have HC0_2 := Aside0.mk hc0_2; clear hr0_2 hc0_2
 have HB := Aside0.mk (Below.refl w.heap.size w)
 have H : ((impl_Table_far.f k a0_0 l0_1 l0_2 a2).bind fun t291 => (if 0 ≤ a1 then (if a1 < (t291.length : Int) then (if (rd t291 a1) < 0 then (some (([] : List Int), false)) else (impl_Table_way.l0 k a1 a2 t291 (([] : List Int)) a0_0 l0_1 l0_2)) else (none)) else (none))) = some (r1, r2) := h
 clear h; replace H := bS H; obtain ⟨t291, A4, H⟩ := H
 replace H : (if 0 ≤ a1 then (if a1 < (t291.length : Int) then (if (rd t291 a1) < 0 then (some (([] : List Int), false)) else (impl_Table_way.l0 k a1 a2 t291 (([] : List Int)) a0_0 l0_1 l0_2)) else (none)) else (none)) = some (r1, r2) := H
 obtain ⟨y294, hy_⟩ : ∃ y_ : List Int, y_ = (([] : List Int)) := ⟨_, rfl⟩
 replace H : (if 0 ≤ a1 then (if a1 < (t291.length : Int) then (if (rd t291 a1) < 0 then (some (([] : List Int), false)) else (impl_Table_way.l0 k a1 a2 t291 y294 a0_0 l0_1 l0_2)) else (none)) else (none)) = some (r1, r2) := yH
 have Ny294 := ak hy_; clear hy_; replace H := ifS H; obtain ⟨c5, H⟩ := H; have c5b0 := decide_eq_true c5; clear c5; replace H := ifS H; obtain ⟨c6, H⟩ := H; have c6b0 := decide_eq_true c6; clear c6
 by_cases c7 : (rd t291 a1) < 0
 ·rw [if_pos c7] at H
  have c7b0 : decide ((rd t291 a1) < 0) = true := decide_eq_true c7
  clear c7
  simp only [Option.some.injEq, Prod.mk.injEq] at H
  obtain ⟨rfl, rfl⟩ := H
  go_enter Try.func111, Try.ntmps111
  go_wp2_with (first | ((with_reducible refine gate_dst (N := 3) rfl ?_); refine boxev 3 #[.int .i64 a0_0, .slice A0_1 l0_1.length c0_1, .slice A0_2 l0_2.length c0_2] 38 ?_; intro gb290 hg w8 hbox hb; have BK290 := ak (hbox); have GW290 := ak (hgl hg (belowd HB)); have GE290 := ak (hgl hg (belowd HB)); replace HB := ak (below_step (belowd HB) hb); clear hb hbox hg; obtain ⟨hcz9_0, hcz9_1, hcz9_2, hfz9_0, hfz9_1, hfz9_2⟩ := box3 BK290) | ((with_reducible refine gate_callee (f := 107) rfl ?_); refine goesLa (some 13) rfl Try.func107 #[.agg #[.int .i64 a0_0, .slice A0_1 l0_1.length c0_1, .slice A0_2 l0_2.length c0_2], .int .i64 a2] rfl ?_; (with_reducible refine (impl_Table_far.calls k a0_0 _ _ l0_1 _ _ l0_2 a2 t291 _ ?side1 ?side2 ?side3 ?side4 A4.out).mono ?_); (case side1 => exact cd (Kd.C_below HR0_1.out HB.out)); (case side2 => exact HC0_1.out); (case side3 => exact cd (Kd.C_below HR0_2.out HB.out)); (case side4 => exact HC0_2.out); rintro e w10 ⟨v292, rfl, ho0, hb⟩; refine ⟨_, rfl, ?_⟩; have HO293 := ak (Kd.R_lower ho0 (below_size (belowg1 HB GE290))); replace BK290 := ak (blk_below (blkd BK290) hb); replace HB := ak (below_step (belowg1 HB GE290) hb); (try clear hb); (try clear ho0)) | ((with_reducible refine gate_dst (N := 14) rfl ?_); refine Kd.R_lit (Kd.int .i64) _ 3 ?hg (N := 14) ?hd (xs := ([] : List Int)) (inner := []) (ok := fun _ => True) (okp := fun _ => True) ?hr ?hp (fun _ hk => hk) trivial (Below.refl _ _) (Nat.le_refl _) (by simp) ?_; (case hd => rfl); (case hg => rfl); (case hr => first | (go_simp; done) | (go_simp; rfl)); (case hp => exact (Reps.none _ _)); intro v295 w11 ho12 hb hg_ hnew_; clear hg_ hnew_; (first | rw [← Ny294.out] at ho12 | (simp only [Int.reduceToNat] at ho12; rw [← Ny294.out] at ho12)); have HO296 := ak (Kd.R_lower (Kd.R_new' ho12 (Kd.R_lt (rdl HO293))) (below_size (belowg1 HB GE290))); replace HO293 := ak (Kd.R_elder' (rdl HO293) (Kd.R_base ho12) hb); replace BK290 := ak (blk_below (blkd BK290) hb); replace HB := ak (below_step (belowg1 HB GE290) hb); clear hb ho12; obtain ⟨Ao13, co13, eo13⟩ := Kd.R_slice HO293.out; subst eo13; have p297 : 0 ≤ (a1 : Int) := da; have q297 : a1 < (t291.length : Int) := da; obtain ⟨ad297, e297, hx297_0⟩ := Kd.at_int (Kd.R_reads' HO293.out).2.2 a1 p297 q297; cases e297; replace p297 := eq_true p297; replace q297 := eq_true q297))
  go_ret2
  exact ⟨_, er2, by first | exact Kd.R_nil _ _ _ _ _ | exact Kd.N_nil _ _ _ _ _ | exact Kd.V_nil _ _ _ _ _ | exact Kd.Q_nil _ _ _ _ _ | exact Kd.S_nil _ _ _ _ _, belowg1 HB GE290⟩
 ·rw [if_neg c7] at H
  have c7b0 : decide ((rd t291 a1) < 0) = false := decide_eq_false c7
  clear c7
  have H' := Aside0.mk H
  clear H
  go_enter Try.func111, Try.ntmps111
  go_wp2_with (first | ((with_reducible refine gate_dst (N := 3) rfl ?_); refine boxev 3 #[.int .i64 a0_0, .slice A0_1 l0_1.length c0_1, .slice A0_2 l0_2.length c0_2] 38 ?_; intro gb290 hg w14 hbox hb; have BK290 := ak (hbox); have GW290 := ak (hgl hg (belowd HB)); have GE290 := ak (hgl hg (belowd HB)); replace HB := ak (below_step (belowd HB) hb); clear hb hbox hg; obtain ⟨hcz15_0, hcz15_1, hcz15_2, hfz15_0, hfz15_1, hfz15_2⟩ := box3 BK290) | ((with_reducible refine gate_callee (f := 107) rfl ?_); refine goesLa (some 13) rfl Try.func107 #[.agg #[.int .i64 a0_0, .slice A0_1 l0_1.length c0_1, .slice A0_2 l0_2.length c0_2], .int .i64 a2] rfl ?_; (with_reducible refine (impl_Table_far.calls k a0_0 _ _ l0_1 _ _ l0_2 a2 t291 _ ?side1 ?side2 ?side3 ?side4 A4.out).mono ?_); (case side1 => exact cd (Kd.C_below HR0_1.out HB.out)); (case side2 => exact HC0_1.out); (case side3 => exact cd (Kd.C_below HR0_2.out HB.out)); (case side4 => exact HC0_2.out); rintro e w16 ⟨v292, rfl, ho0, hb⟩; refine ⟨_, rfl, ?_⟩; have HO293 := ak (Kd.R_lower ho0 (below_size (belowg1 HB GE290))); replace BK290 := ak (blk_below (blkd BK290) hb); replace HB := ak (below_step (belowg1 HB GE290) hb); (try clear hb); (try clear ho0)) | ((with_reducible refine gate_dst (N := 14) rfl ?_); refine Kd.R_lit (Kd.int .i64) _ 3 ?hg (N := 14) ?hd (xs := ([] : List Int)) (inner := []) (ok := fun _ => True) (okp := fun _ => True) ?hr ?hp (fun _ hk => hk) trivial (Below.refl _ _) (Nat.le_refl _) (by simp) ?_; (case hd => rfl); (case hg => rfl); (case hr => first | (go_simp; done) | (go_simp; rfl)); (case hp => exact (Reps.none _ _)); intro v295 w17 ho18 hb hg_ hnew_; clear hg_ hnew_; (first | rw [← Ny294.out] at ho18 | (simp only [Int.reduceToNat] at ho18; rw [← Ny294.out] at ho18)); have HO296 := ak (Kd.R_lower (Kd.R_new' ho18 (Kd.R_lt (rdl HO293))) (below_size (belowg1 HB GE290))); replace HO293 := ak (Kd.R_elder' (rdl HO293) (Kd.R_base ho18) hb); replace BK290 := ak (blk_below (blkd BK290) hb); replace HB := ak (below_step (belowg1 HB GE290) hb); clear hb ho18; obtain ⟨Ao19, co19, eo19⟩ := Kd.R_slice HO293.out; subst eo19; have p297 : 0 ≤ (a1 : Int) := da; have q297 : a1 < (t291.length : Int) := da; obtain ⟨ad297, e297, hx297_0⟩ := Kd.at_int (Kd.R_reads' HO293.out).2.2 a1 p297 q297; cases e297; replace p297 := eq_true p297; replace q297 := eq_true q297))
  go_loopg [1, 9] k (fun kq v1 v9 w' => ∃ (x1_1 : Int) (x9_1 : List Int), v1 = .int .i64 x1_1 ∧ Aside0 (impl_Table_way.l0 kq x1_1 a2 t291 x9_1 a0_0 l0_1 l0_2 = some (r1, r2)) ∧ Aside0 (kq ≤ k) ∧ Aside0 (Kd.R (Kd.int .i64) 3 w' w.heap.size (fun k_ => some k_ ≠ (v9 : Value).ownBlock) (.slice (some ad297) t291.length co19) t291) ∧ Aside0 (Kd.R (Kd.int .i64) 3 w' w.heap.size (fun k_ => some k_ ≠ ((.slice (some ad297) t291.length co19) : Value).ownBlock) v9 x9_1) ∧ Aside0 (w'.heap[gb290]? = some (.cells #[.int .i64 a0_0, (.slice A0_1 l0_1.length c0_1), (.slice A0_2 l0_2.length c0_2)] 38 (0, 0))) ∧ Aside0 (Below w.heap.size w w'))
  case atStart => exact ⟨(a1), (y294), er, H', ⟨Nat.le_refl _⟩, ⟨by (with_reducible repeat (first | apply Kd.R_alloc | apply Kd.R_drewN | apply Kd.R_drew)); exact Kd.R_mono HO293.out (fun _ hk => hk.2)⟩, ⟨by (with_reducible repeat (first | apply Kd.R_alloc | apply Kd.R_drewN | apply Kd.R_drew)); exact Kd.R_mono HO296.out (fun _ hk => hk.2)⟩, ⟨blkd BK290⟩, ⟨belowg1 HB GE290⟩⟩
  case round =>
   clear H'
   (try clear c5b0); (try clear c6b0); (try clear c7b0); (try clear hcz15_0); (try clear hcz15_1); (try clear hcz15_2); (try clear hfz15_0); (try clear hfz15_1); (try clear hfz15_2); (try clear hx297_0); (try clear p297); (try clear q297)
   obtain ⟨x1_1, x9_1, rfl, HA, HK1, HO_8, HO_9, BK290, HB⟩ := hrel
   cases gk with
   | zero => exact absurd HA.out (by simp [impl_Table_way.l0])
   | succ k1 =>
    have H := HA.out; clear HA
    simp only [impl_Table_way.l0] at H
    by_cases c20 : x1_1 = a2
    ·rw [if_pos c20] at H
     have c20b0 : (x1_1 == a2) = true := beq_iff_eq.mpr c20
     have c20b1 : (x1_1 != a2) = false := bne_eq_false_iff_eq.mpr c20
     clear c20
     simp only [Option.some.injEq, Prod.mk.injEq] at H
     obtain ⟨rfl, rfl⟩ := H; go_wp2
     go_ret2
     exact ⟨_, er2, by (with_reducible repeat (first | apply Kd.R_alloc | apply Kd.R_drewN | apply Kd.R_drew)); exact Kd.R_mono HO_9.out (fun _ hk => trivial), belowg1 HB GE290⟩
    ·rw [if_neg c20] at H
     have c20b0 : (x1_1 == a2) = false := beq_eq_false_iff_ne.mpr c20
     have c20b1 : (x1_1 != a2) = true := bne_iff_ne.mpr c20
     have H' := Aside0.mk H
     clear H; go_wp2
     go_loopg [10] k1 (fun kq v10 w' => ∃ (x10_2 : Int), v10 = .int .i64 x10_2 ∧ Aside0 (impl_Table_way.l1 kq x1_1 a2 t291 x9_1 x10_2 a0_0 l0_1 l0_2 = some (r1, r2)) ∧ Aside0 (kq ≤ k1) ∧ Aside0 (Kd.R (Kd.int .i64) 3 w' w.heap.size (fun k_ => some k_ ≠ (u9 : Value).ownBlock) (.slice (some ad297) t291.length co19) t291) ∧ Aside0 (Kd.R (Kd.int .i64) 3 w' w.heap.size (fun k_ => some k_ ≠ ((.slice (some ad297) t291.length co19) : Value).ownBlock) u9 x9_1) ∧ Aside0 (w'.heap[gb290]? = some (.cells #[.int .i64 a0_0, (.slice A0_1 l0_1.length c0_1), (.slice A0_2 l0_2.length c0_2)] 38 (0, 0))) ∧ Aside0 (Below w.heap.size w w'))
     case atStart => exact ⟨(0), er, H', ⟨Nat.le_refl _⟩, ⟨rdl HO_8⟩, ⟨rdl HO_9⟩, ⟨blkd BK290⟩, ⟨belowg1 HB GE290⟩⟩
     case round =>
      clear H'
      (try clear c20); (try clear c20b0); (try clear c20b1)
      obtain ⟨x10_2, rfl, HA, HK2, HO_8, HO_9, BK290, HB⟩ := hrel
      cases gk with
      | zero => exact absurd HA.out (by simp [impl_Table_way.l1])
      | succ k2 =>
       have H := HA.out; clear HA
       simp only [impl_Table_way.l1] at H
       replace H := ifS H; obtain ⟨c21, H⟩ := H; have c21b0 := decide_eq_true c21; clear c21; replace H := ifS H; obtain ⟨c22, H⟩ := H; have c22b0 := decide_eq_true c22; clear c22; replace H := ifS H; obtain ⟨c23, H⟩ := H; have c23b0 := decide_eq_true c23; clear c23; replace H := ifS H; obtain ⟨c24, H⟩ := H; have c24b0 := decide_eq_true c24; clear c24
       by_cases c25 : (rd t291 x10_2) = (wrap64 ((rd t291 x1_1) - 1))
       ·rw [if_pos c25] at H
        have c25b0 : ((rd t291 x10_2) == (wrap64 ((rd t291 x1_1) - 1))) = true := beq_iff_eq.mpr c25
        have c25b1 : ((rd t291 x10_2) != (wrap64 ((rd t291 x1_1) - 1))) = false := bne_eq_false_iff_eq.mpr c25
        clear c25; replace H := bS H; obtain ⟨t300, A26, H⟩ := H
        replace H : (if t300 < 0 then (impl_Table_way.l1 k2 x1_1 a2 t291 x9_1 (wrap64 (x10_2 + 1)) a0_0 l0_1 l0_2) else ((impl_Table_pair.f k2 a0_0 l0_1 l0_2 x1_1 x10_2).bind fun t301 => (if x9_1.length < 17592186044416 then (impl_Table_way.l0 k2 x10_2 a2 t291 (x9_1 ++ [t301]) a0_0 l0_1 l0_2) else (none)))) = some (r1, r2) := H
        by_cases c27 : t300 < 0
        ·rw [if_pos c27] at H
         have c27b0 : decide (t300 < 0) = true := decide_eq_true c27
         clear c27
         have H' := Aside0.mk H
         clear H
         try go_wp2
         replace HO_8 := ak (Kd.R_drew HO_8.out)
         replace HO_9 := ak (Kd.R_drew HO_9.out)
         replace BK290 := ak (blk_drew BK290.out)
         replace HB := ak (below_drew1 HB.out)
         have p298 : 0 ≤ (x10_2 : Int) := da
         have q298 : x10_2 < (t291.length : Int) := da
         obtain ⟨ad298, e298, hx298_0⟩ := Kd.at_int (Kd.R_reads' HO_8.out).2.2 x10_2 p298 q298
         obtain rfl : ad297 = ad298 := (by injection e298)
         replace p298 := eq_true p298; replace q298 := eq_true q298
         have p299 : 0 ≤ (x1_1 : Int) := da
         have q299 : x1_1 < (t291.length : Int) := da
         obtain ⟨ad299, e299, hx299_0⟩ := Kd.at_int (Kd.R_reads' HO_8.out).2.2 x1_1 p299 q299
         obtain rfl : ad297 = ad299 := (by injection e299)
         replace p299 := eq_true p299; replace q299 := eq_true q299
         refine start_ (n := 17) (S := fun w' => w'.cell? ⟨gb290, 0, none⟩ = some (.int .i64 a0_0) ∧ w'.cell? ⟨gb290, 1, none⟩ = some (.slice A0_1 l0_1.length c0_1) ∧ w'.cell? ⟨gb290, 2, none⟩ = some (.slice A0_2 l0_2.length c0_2) ∧ w'.cell? (ad297.add (x10_2).toNat) = some (.int .i64 (rd t291 x10_2)) ∧ w'.cell? (ad297.add (x1_1).toNat) = some (.int .i64 (rd t291 x1_1))) (ds := []) (bl 17 0) (by kernel_rfl) rfl rfl ⟨bq BK290 0, bq BK290 1, bq BK290 2, hx298_0, hx299_0⟩ (fun hHeld => ?_); refine with_tabW impl_Table_way.tab6 impl_Table_way.bits6 (fun HT_ HW_ => ?_)
         generalize wr.drew = w28 at HO_8 HO_9 BK290 HB hx298_0 hx299_0 hHeld ⊢
         refine pureA 0 (some 23) 17 1 HT_ ?_
         refine pureA 1 (some 24) 17 3 HT_ ?_
         refine pureA 2 (some 25) 17 7 HT_ ?_
         refine pureA 4 (some 27) 17 23 HT_ ?_
         refine pureA 5 (some 28) 17 55 HT_ ?_
         refine pureA 6 (some 29) 17 119 HT_ ?_
         refine takeA 3 (some 26) 17 127 HT_ HW_ hHeld ?_ (hy := by rintro w' ⟨s0, s1, s2, s3, s4⟩; go_simp; with_reducible rfl)
         refine takeA 7 (some 30) 17 255 HT_ HW_ hHeld ?_ (hy := by rintro w' ⟨s0, s1, s2, s3, s4⟩; go_simp; with_reducible rfl)
         refine pureA 8 (some 31) 17 511 HT_ ?_
         refine pureA 9 (some 32) 17 1023 HT_ ?_
         refine pureA 10 (some 33) 17 2047 HT_ ?_
         refine pureA 12 (some 35) 17 6143 HT_ ?_
         refine pureA 13 (some 36) 17 14335 HT_ ?_
         refine takeA 11 (some 34) 17 16383 HT_ HW_ hHeld ?_ (hy := by rintro w' ⟨s0, s1, s2, s3, s4⟩; go_simp; with_reducible rfl)
         refine oneA 14 (some 37) 17 32767 HT_ (fun K hK => ?_)
         refine goes_ Try.func144 (by kernel_rfl) rfl #[.agg #[.int .i64 a0_0, .slice A0_1 l0_1.length c0_1, .slice A0_2 l0_2.length c0_2], .int .i64 x1_1, .int .i64 x10_2] (by rfl) rfl rfl (by (try simp only [List.map_toArray, List.map_cons, List.map_nil]); first | done | rfl | (simp only [List.length_drop, List.length_take]; rfl)) ?_
         with_reducible refine (impl_Table_pair.calls k2 a0_0 _ _ l0_1 _ _ l0_2 x1_1 x10_2 t300 _ ?side1 ?side2 ?side3 ?side4 A26.out).mono ?_
         (case side1 => exact cd (Kd.C_below HR0_1.out HB.out))
         (case side2 => exact HC0_1.out)
         (case side3 => exact cd (Kd.C_below HR0_2.out HB.out))
         (case side4 => exact HC0_2.out)
         rintro e w29 ⟨rfl, hb⟩
         have HS3_ := (hb.cell (World.block_lt_of_cell? _ _ (hHeld.2.2.2.1))).trans (hHeld.2.2.2.1)
         have HS4_ := (hb.cell (World.block_lt_of_cell? _ _ (hHeld.2.2.2.2))).trans (hHeld.2.2.2.2)
         refine ⟨_, rfl, ?_⟩
         replace HO_8 := ak (Kd.R_below (rdl HO_8) hb)
         replace HO_9 := ak (Kd.R_below (rdl HO_9) hb)
         replace BK290 := ak (blk_below (blkd BK290) hb)
         replace HB := ak (below_step (belowg1 HB GE290) hb)
         (try clear hb); (try clear hb2); (try clear hk); (try clear hi)
         refine hK.out _ _ ⟨bq BK290 0, bq BK290 1, bq BK290 2, HS3_, HS4_⟩ (fun hHeld => ?_)
         clear hK K
         refine norm_ (a' := ?_) ?_ ?_
         rotate_left
         ·show Act.put _ (some 37) _ = _
          simp only [Act.put, List.setIfInBounds_toArray, List.set_cons_zero, List.set_cons_succ, i64_w, i32_w]
          rfl
         refine pureA 15 (some 38) 17 65535 HT_ ?_
         refine pureA 16 (some 39) 17 131071 HT_ ?_
         refine done_ (done_of HT_.out (by kernel_rfl)) ?_
         try go_wp2
         go_roundg k2
         case measure => have := HK1.out; have := HK2.out; omega
         case rel => exact ⟨(wrap64 (x10_2 + 1)), er, H', ⟨by have := HK1.out; have := HK2.out; omega⟩, ⟨rdl HO_8⟩, ⟨rdl HO_9⟩, ⟨blkd BK290⟩, ⟨belowg1 HB GE290⟩⟩
        ·rw [if_neg c27] at H
         have c27b0 : decide (t300 < 0) = false := decide_eq_false c27
         clear c27; replace H := bS H; obtain ⟨t301, A30, H⟩ := H
         replace H : (if x9_1.length < 17592186044416 then (impl_Table_way.l0 k2 x10_2 a2 t291 (x9_1 ++ [t301]) a0_0 l0_1 l0_2) else (none)) = some (r1, r2) := H
         replace H := ifS H; obtain ⟨c31, H⟩ := H; have LMc31 := Aside0.mk c31; clear c31
         obtain ⟨y302, hy_⟩ : ∃ y_ : List Int, y_ = (x9_1 ++ [t301]) := ⟨_, rfl⟩
         replace H : (impl_Table_way.l0 k2 x10_2 a2 t291 y302 a0_0 l0_1 l0_2) = some (r1, r2) := yH
         have Ny302 := ak hy_; clear hy_
         have H' := Aside0.mk H
         clear H
         try go_wp2
         replace HO_8 := ak (Kd.R_drew HO_8.out)
         replace HO_9 := ak (Kd.R_drew HO_9.out)
         replace BK290 := ak (blk_drew BK290.out)
         replace HB := ak (below_drew1 HB.out)
         have p298 : 0 ≤ (x10_2 : Int) := da
         have q298 : x10_2 < (t291.length : Int) := da
         obtain ⟨ad298, e298, hx298_0⟩ := Kd.at_int (Kd.R_reads' HO_8.out).2.2 x10_2 p298 q298
         obtain rfl : ad297 = ad298 := (by injection e298)
         replace p298 := eq_true p298; replace q298 := eq_true q298
         have p299 : 0 ≤ (x1_1 : Int) := da
         have q299 : x1_1 < (t291.length : Int) := da
         obtain ⟨ad299, e299, hx299_0⟩ := Kd.at_int (Kd.R_reads' HO_8.out).2.2 x1_1 p299 q299
         obtain rfl : ad297 = ad299 := (by injection e299)
         replace p299 := eq_true p299; replace q299 := eq_true q299
         refine start_ (n := 17) (S := fun w' => w'.cell? ⟨gb290, 0, none⟩ = some (.int .i64 a0_0) ∧ w'.cell? ⟨gb290, 1, none⟩ = some (.slice A0_1 l0_1.length c0_1) ∧ w'.cell? ⟨gb290, 2, none⟩ = some (.slice A0_2 l0_2.length c0_2) ∧ w'.cell? (ad297.add (x10_2).toNat) = some (.int .i64 (rd t291 x10_2)) ∧ w'.cell? (ad297.add (x1_1).toNat) = some (.int .i64 (rd t291 x1_1))) (ds := []) (bl 17 0) (by kernel_rfl) rfl rfl ⟨bq BK290 0, bq BK290 1, bq BK290 2, hx298_0, hx299_0⟩ (fun hHeld => ?_); refine with_tabW impl_Table_way.tab6 impl_Table_way.bits6 (fun HT_ HW_ => ?_)
         generalize wr.drew = w32 at HO_8 HO_9 BK290 HB hx298_0 hx299_0 hHeld ⊢
         refine pureA 0 (some 23) 17 1 HT_ ?_
         refine pureA 1 (some 24) 17 3 HT_ ?_
         refine pureA 2 (some 25) 17 7 HT_ ?_
         refine pureA 4 (some 27) 17 23 HT_ ?_
         refine pureA 5 (some 28) 17 55 HT_ ?_
         refine pureA 6 (some 29) 17 119 HT_ ?_
         refine takeA 3 (some 26) 17 127 HT_ HW_ hHeld ?_ (hy := by rintro w' ⟨s0, s1, s2, s3, s4⟩; go_simp; with_reducible rfl)
         refine takeA 7 (some 30) 17 255 HT_ HW_ hHeld ?_ (hy := by rintro w' ⟨s0, s1, s2, s3, s4⟩; go_simp; with_reducible rfl)
         refine pureA 8 (some 31) 17 511 HT_ ?_
         refine pureA 9 (some 32) 17 1023 HT_ ?_
         refine pureA 10 (some 33) 17 2047 HT_ ?_
         refine pureA 12 (some 35) 17 6143 HT_ ?_
         refine pureA 13 (some 36) 17 14335 HT_ ?_
         refine takeA 11 (some 34) 17 16383 HT_ HW_ hHeld ?_ (hy := by rintro w' ⟨s0, s1, s2, s3, s4⟩; go_simp; with_reducible rfl)
         refine oneA 14 (some 37) 17 32767 HT_ (fun K hK => ?_)
         refine goes_ Try.func144 (by kernel_rfl) rfl #[.agg #[.int .i64 a0_0, .slice A0_1 l0_1.length c0_1, .slice A0_2 l0_2.length c0_2], .int .i64 x1_1, .int .i64 x10_2] (by rfl) rfl rfl (by (try simp only [List.map_toArray, List.map_cons, List.map_nil]); first | done | rfl | (simp only [List.length_drop, List.length_take]; rfl)) ?_
         with_reducible refine (impl_Table_pair.calls k2 a0_0 _ _ l0_1 _ _ l0_2 x1_1 x10_2 t300 _ ?side1 ?side2 ?side3 ?side4 A26.out).mono ?_
         (case side1 => exact cd (Kd.C_below HR0_1.out HB.out))
         (case side2 => exact HC0_1.out)
         (case side3 => exact cd (Kd.C_below HR0_2.out HB.out))
         (case side4 => exact HC0_2.out)
         rintro e w33 ⟨rfl, hb⟩
         have HS3_ := (hb.cell (World.block_lt_of_cell? _ _ (hHeld.2.2.2.1))).trans (hHeld.2.2.2.1)
         have HS4_ := (hb.cell (World.block_lt_of_cell? _ _ (hHeld.2.2.2.2))).trans (hHeld.2.2.2.2)
         refine ⟨_, rfl, ?_⟩
         replace HO_8 := ak (Kd.R_below (rdl HO_8) hb)
         replace HO_9 := ak (Kd.R_below (rdl HO_9) hb)
         replace BK290 := ak (blk_below (blkd BK290) hb)
         replace HB := ak (below_step (belowg1 HB GE290) hb)
         (try clear hb); (try clear hb2); (try clear hk); (try clear hi)
         refine hK.out _ _ ⟨bq BK290 0, bq BK290 1, bq BK290 2, HS3_, HS4_⟩ (fun hHeld => ?_)
         clear hK K
         refine norm_ (a' := ?_) ?_ ?_
         rotate_left
         ·show Act.put _ (some 37) _ = _
          simp only [Act.put, List.setIfInBounds_toArray, List.set_cons_zero, List.set_cons_succ, i64_w, i32_w]
          rfl
         refine pureA 15 (some 38) 17 65535 HT_ ?_
         refine pureA 16 (some 39) 17 131071 HT_ ?_
         refine done_ (done_of HT_.out (by kernel_rfl)) ?_
         obtain ⟨hcz34_0, hcz34_1, hcz34_2, hfz34_0, hfz34_1, hfz34_2⟩ := box3 BK290
         try go_wp2_with (first | ((with_reducible refine gate_callee (f := 144) rfl ?_); refine goesLa (some 46) rfl Try.func144 #[.agg #[.int .i64 a0_0, .slice A0_1 l0_1.length c0_1, .slice A0_2 l0_2.length c0_2], .int .i64 x1_1, .int .i64 x10_2] rfl ?_; (with_reducible refine (impl_Table_pair.calls k2 a0_0 _ _ l0_1 _ _ l0_2 x1_1 x10_2 t301 _ ?side1 ?side2 ?side3 ?side4 A30.out).mono ?_); (case side1 => exact cd (Kd.C_below HR0_1.out HB.out)); (case side2 => exact HC0_1.out); (case side3 => exact cd (Kd.C_below HR0_2.out HB.out)); (case side4 => exact HC0_2.out); rintro e w35 ⟨rfl, hb⟩; refine ⟨_, rfl, ?_⟩; replace HO_8 := ak (Kd.R_below (rdl HO_8) hb); replace HO_9 := ak (Kd.R_below (rdl HO_9) hb); replace BK290 := ak (blk_below (blkd BK290) hb); replace HB := ak (below_step (belowg1 HB GE290) hb); (try clear hb)) | ((with_reducible refine gate_builtin (b := .append) (xs := #[.tmp 42, .tmp 47]) rfl ?_); at_builtin; refine Kd.R_append (Kd.int .i64) (w0 := w) w.heap.size rfl (.tmp 42) (.tmp 47) 22 3 (.int .i64 0) 8 rfl Try.underlying22 info3 rfl (by decide) (by omega) u9 x9_1 t301 [.int .i64 t301] (fun k_ => some k_ ≠ (.slice (some ad297) t291.length co19 : Value).ownBlock) (fun _ => False) rfl rfl ?aP (fun _ hk => hk.elim) ?aF ?aO ?aB ?aS ?aL ?_; (case aP => exact rfl); (case aB => exact (belowg1 HB GE290)); (case aF => exact (fun k_ hk => Kd.fresh' (Kd.R_lt (rdl HO_8)) k_ hk)); (case aO => exact (rdl HO_9)); (case aS => exact (below_size (belowg1 HB GE290))); (case aL => have := LMc31.out; omega); intro v303 w36 ho hb hg hat; rw [← Ny302.out] at ho; replace HO_8 := ak (Kd.R_after (ok := (fun _ => True)) (by (with_reducible repeat (first | apply Kd.R_alloc | apply Kd.R_drewN | apply Kd.R_drew)); exact Kd.R_mono HO_8.out (fun _ hk => ⟨trivial, hk⟩)) hg hat); replace BK290 := ak (blk_grown (blkd BK290) hg (Kd.R_ne HO_9.out BK290.out (by decide))); replace HB := ak (hb); have HO304 := ak (ho); clear HO_9; clear ho hb hg hat))
         go_roundg k2
         case measure => have := HK1.out; have := HK2.out; omega
         case rel => exact ⟨(x10_2), (y302), er, H', ⟨by have := HK1.out; have := HK2.out; omega⟩, ⟨by (with_reducible repeat (first | apply Kd.R_alloc | apply Kd.R_drewN | apply Kd.R_drew)); exact Kd.R_mono HO_8.out (fun _ hk => hk.2)⟩, ⟨rdl HO304⟩, ⟨blkd BK290⟩, ⟨belowg1 HB GE290⟩⟩
       ·rw [if_neg c25] at H
        have c25b0 : ((rd t291 x10_2) == (wrap64 ((rd t291 x1_1) - 1))) = false := beq_eq_false_iff_ne.mpr c25
        have c25b1 : ((rd t291 x10_2) != (wrap64 ((rd t291 x1_1) - 1))) = true := bne_iff_ne.mpr c25
        have H' := Aside0.mk H
        clear H
        try go_wp2
        replace HO_8 := ak (Kd.R_drew HO_8.out)
        replace HO_9 := ak (Kd.R_drew HO_9.out)
        replace BK290 := ak (blk_drew BK290.out)
        replace HB := ak (below_drew1 HB.out)
        have p298 : 0 ≤ (x10_2 : Int) := da
        have q298 : x10_2 < (t291.length : Int) := da
        obtain ⟨ad298, e298, hx298_0⟩ := Kd.at_int (Kd.R_reads' HO_8.out).2.2 x10_2 p298 q298
        obtain rfl : ad297 = ad298 := (by injection e298)
        replace p298 := eq_true p298; replace q298 := eq_true q298
        have p299 : 0 ≤ (x1_1 : Int) := da
        have q299 : x1_1 < (t291.length : Int) := da
        obtain ⟨ad299, e299, hx299_0⟩ := Kd.at_int (Kd.R_reads' HO_8.out).2.2 x1_1 p299 q299
        obtain rfl : ad297 = ad299 := (by injection e299)
        replace p299 := eq_true p299; replace q299 := eq_true q299
        refine start_ (n := 17) (S := fun w' => w'.cell? (ad297.add (x10_2).toNat) = some (.int .i64 (rd t291 x10_2)) ∧ w'.cell? (ad297.add (x1_1).toNat) = some (.int .i64 (rd t291 x1_1))) (ds := []) (bl 17 0) (by kernel_rfl) rfl rfl ⟨hx298_0, hx299_0⟩ (fun hHeld => ?_); refine with_tabW impl_Table_way.tab6 impl_Table_way.bits6 (fun HT_ HW_ => ?_)
        generalize wr.drew = w37 at HO_8 HO_9 BK290 HB hx298_0 hx299_0 hHeld ⊢
        refine pureA 0 (some 23) 17 1 HT_ ?_
        refine pureA 1 (some 24) 17 3 HT_ ?_
        refine pureA 2 (some 25) 17 7 HT_ ?_
        refine pureA 4 (some 27) 17 23 HT_ ?_
        refine pureA 5 (some 28) 17 55 HT_ ?_
        refine pureA 6 (some 29) 17 119 HT_ ?_
        refine takeA 3 (some 26) 17 127 HT_ HW_ hHeld ?_ (hy := by rintro w' ⟨s0, s1⟩; go_simp; with_reducible rfl)
        refine takeA 7 (some 30) 17 255 HT_ HW_ hHeld ?_ (hy := by rintro w' ⟨s0, s1⟩; go_simp; with_reducible rfl)
        refine pureA 8 (some 31) 17 511 HT_ ?_
        refine pureA 9 (some 32) 17 1023 HT_ ?_
        refine pureA 10 (some 33) 17 2047 HT_ ?_
        refine pureB 11 (some 34) 17 4095 HT_ ?_
        refine pureB 12 (some 35) 17 8191 HT_ ?_
        refine pureB 13 (some 36) 17 16383 HT_ ?_
        refine pureB 14 (some 37) 17 32767 HT_ ?_
        refine pureB 15 (some 38) 17 65535 HT_ ?_
        refine pureA 16 (some 39) 17 131071 HT_ ?_
        refine done_ (done_of HT_.out (by kernel_rfl)) ?_
        try go_wp2
        go_roundg k2
        case measure => have := HK1.out; have := HK2.out; omega
        case rel => exact ⟨(wrap64 (x10_2 + 1)), er, H', ⟨by have := HK1.out; have := HK2.out; omega⟩, ⟨rdl HO_8⟩, ⟨rdl HO_9⟩, ⟨blkd BK290⟩, ⟨belowg1 HB GE290⟩⟩

/-! ### impl_WayBetween: function 43 -/
def impl_WayBetween.f (k : Nat) (a0_0 : Int) (l0_1 : List (List Int)) (l0_2 : List Int) (a1 : Int) (a2 : Int) : Option (List Int × Bool) := (impl_GoodTable.f k a0_0 l0_1 l0_2).bind fun t306 => (if t306 = true then ((impl_Table_isSeat.f a0_0 l0_1 l0_2 a1).bind fun t307 => (if t307 = true then ((impl_Table_isSeat.f a0_0 l0_1 l0_2 a2).bind fun t308 => (if t308 = true then ((impl_Table_way.f k a0_0 l0_1 l0_2 a1 a2).bind fun bt309 => (some (bt309.1, bt309.2))) else (some (([] : List Int), false)))) else (some (([] : List Int), false)))) else (some (([] : List Int), false)))
theorem impl_WayBetween.mono : ∀ a0 a1 a2 a3 a4 k, LeO (impl_WayBetween.f k a0 a1 a2 a3 a4) (impl_WayBetween.f (k + 1) a0 a1 a2 a3 a4) := by
 intro a0 a1 a2 a3 a4 k
 unfold impl_WayBetween.f
 repeat' (first | (with_reducible first | exact impl_GoodTable.mono _ _ _ _ | exact impl_Table_way.mono _ _ _ _ _ _ | exact LeO.refl _ | exact LeO.none _ | refine LeO.ite ?_ ?_ | refine LeO.bind ?_ (fun _ => ?_)) | exact impl_GoodTable.mono _ _ _ _ | exact impl_Table_way.mono _ _ _ _ _ _ | exact LeO.none _ | refine LeO.ite ?_ ?_ | refine LeO.bind ?_ (fun _ => ?_))
set_option maxHeartbeats 8000000 in
set_option maxRecDepth 100000 in
theorem impl_WayBetween.calls (k : Nat) (a0_0 : Int) (A0_1 : Option Addr) (c0_1 : Nat) (l0_1 : List (List Int)) (A0_2 : Option Addr) (c0_2 : Nat) (l0_2 : List Int) (a1 : Int) (a2 : Int) (r1 : List Int) (r2 : Bool) (w : World) (hr0_1 : Kd.C (Kd.slice 3 (Kd.int .i64)) w A0_1 l0_1.length l0_1) (hc0_1 : l0_1.length ≤ c0_1) (hr0_2 : Kd.C (Kd.int .i64) w A0_2 l0_2.length l0_2) (hc0_2 : l0_2.length ≤ c0_2) (h : impl_WayBetween.f k a0_0 l0_1 l0_2 a1 a2 = some (r1, r2)) :
  Calls Try.prog 43 #[.agg #[.int .i64 a0_0, .slice A0_1 l0_1.length c0_1, .slice A0_2 l0_2.length c0_2], .int .i64 a1, .int .i64 a2] w fun e w' => ∃ v0_ : Value, e = .returned (.tuple #[v0_, .bool r2]) ∧ Kd.R (Kd.int .i64) 3 w' w.heap.size (fun _ => True) v0_ r1 ∧ Below w.heap.size w w' := by
 have hu38 := Try.underlying38
 have HR0_1 := Aside0.mk hr0_1; have HC0_1 := Aside0.mk hc0_1; clear hr0_1 hc0_1; have HR0_2 := Aside0.mk hr0_2; have HC0_2 := Aside0.mk hc0_2; clear hr0_2 hc0_2
 have HB := Aside0.mk (Below.refl w.heap.size w)
 have H : ((impl_GoodTable.f k a0_0 l0_1 l0_2).bind fun t306 => (if t306 = true then ((impl_Table_isSeat.f a0_0 l0_1 l0_2 a1).bind fun t307 => (if t307 = true then ((impl_Table_isSeat.f a0_0 l0_1 l0_2 a2).bind fun t308 => (if t308 = true then ((impl_Table_way.f k a0_0 l0_1 l0_2 a1 a2).bind fun bt309 => (some (bt309.1, bt309.2))) else (some (([] : List Int), false)))) else (some (([] : List Int), false)))) else (some (([] : List Int), false)))) = some (r1, r2) := h
 clear h; replace H := bS H; obtain ⟨t306, A4, H⟩ := H
 replace H : (if t306 = true then ((impl_Table_isSeat.f a0_0 l0_1 l0_2 a1).bind fun t307 => (if t307 = true then ((impl_Table_isSeat.f a0_0 l0_1 l0_2 a2).bind fun t308 => (if t308 = true then ((impl_Table_way.f k a0_0 l0_1 l0_2 a1 a2).bind fun bt309 => (some (bt309.1, bt309.2))) else (some (([] : List Int), false)))) else (some (([] : List Int), false)))) else (some (([] : List Int), false))) = some (r1, r2) := H
 by_cases c5 : t306 = true
 ·subst c5
  have H1 : ((impl_Table_isSeat.f a0_0 l0_1 l0_2 a1).bind fun t307 => (if t307 = true then ((impl_Table_isSeat.f a0_0 l0_1 l0_2 a2).bind fun t308 => (if t308 = true then ((impl_Table_way.f k a0_0 l0_1 l0_2 a1 a2).bind fun bt309 => (some (bt309.1, bt309.2))) else (some (([] : List Int), false)))) else (some (([] : List Int), false)))) = some (r1, r2) := by rw [if_pos rfl] at H; exact H
  clear H
  have H := H1
  clear H1; replace H := bS H; obtain ⟨t307, A6, H⟩ := H
  replace H : (if t307 = true then ((impl_Table_isSeat.f a0_0 l0_1 l0_2 a2).bind fun t308 => (if t308 = true then ((impl_Table_way.f k a0_0 l0_1 l0_2 a1 a2).bind fun bt309 => (some (bt309.1, bt309.2))) else (some (([] : List Int), false)))) else (some (([] : List Int), false))) = some (r1, r2) := H
  by_cases c7 : t307 = true
  ·subst c7
   have H1 : ((impl_Table_isSeat.f a0_0 l0_1 l0_2 a2).bind fun t308 => (if t308 = true then ((impl_Table_way.f k a0_0 l0_1 l0_2 a1 a2).bind fun bt309 => (some (bt309.1, bt309.2))) else (some (([] : List Int), false)))) = some (r1, r2) := by rw [if_pos rfl] at H; exact H
   clear H
   have H := H1
   clear H1; replace H := bS H; obtain ⟨t308, A8, H⟩ := H
   replace H : (if t308 = true then ((impl_Table_way.f k a0_0 l0_1 l0_2 a1 a2).bind fun bt309 => (some (bt309.1, bt309.2))) else (some (([] : List Int), false))) = some (r1, r2) := H
   by_cases c9 : t308 = true
   ·subst c9
    have H1 : ((impl_Table_way.f k a0_0 l0_1 l0_2 a1 a2).bind fun bt309 => (some (bt309.1, bt309.2))) = some (r1, r2) := by rw [if_pos rfl] at H; exact H
    clear H
    have H := H1
    clear H1; replace H := bS H; obtain ⟨⟨t309, t312⟩, A10, H⟩ := H
    replace H : (some (t309, t312)) = some (r1, r2) := H
    simp only [Option.some.injEq, Prod.mk.injEq] at H
    obtain ⟨rfl, rfl⟩ := H
    go_enter Try.func43, Try.ntmps43
    go_wp2_with (first | ((with_reducible refine gate_dst (N := 3) rfl ?_); refine boxev 3 #[.int .i64 a0_0, .slice A0_1 l0_1.length c0_1, .slice A0_2 l0_2.length c0_2] 38 ?_; intro gb305 hg w11 hbox hb; have BK305 := ak (hbox); have GW305 := ak (hgl hg (belowd HB)); have GE305 := ak (hgl hg (belowd HB)); replace HB := ak (below_step (belowd HB) hb); clear hb hbox hg; obtain ⟨hcz12_0, hcz12_1, hcz12_2, hfz12_0, hfz12_1, hfz12_2⟩ := box3 BK305) | ((with_reducible refine gate_callee (f := 59) rfl ?_); refine goesLa (some 9) rfl Try.func59 #[.agg #[.int .i64 a0_0, .slice A0_1 l0_1.length c0_1, .slice A0_2 l0_2.length c0_2]] rfl ?_; (with_reducible refine (impl_GoodTable.calls k a0_0 _ _ l0_1 _ _ l0_2 true _ ?side1 ?side2 ?side3 ?side4 A4.out).mono ?_); (case side1 => exact cd (Kd.C_below HR0_1.out HB.out)); (case side2 => exact HC0_1.out); (case side3 => exact cd (Kd.C_below HR0_2.out HB.out)); (case side4 => exact HC0_2.out); rintro e w13 ⟨rfl, hb⟩; refine ⟨_, rfl, ?_⟩; replace BK305 := ak (blk_below (blkd BK305) hb); replace HB := ak (below_step (belowg1 HB GE305) hb); (try clear hb); obtain ⟨hcz14_0, hcz14_1, hcz14_2, hfz14_0, hfz14_1, hfz14_2⟩ := box3 BK305) | (go_at_call 110; (with_reducible refine (impl_Table_isSeat.calls a0_0 _ _ l0_1 _ _ l0_2 a1 true _ ?side1 ?side2 ?side3 ?side4 A6.out).mono ?_); (case side1 => exact cd (Kd.C_below HR0_1.out HB.out)); (case side2 => exact HC0_1.out); (case side3 => exact cd (Kd.C_below HR0_2.out HB.out)); (case side4 => exact HC0_2.out); rintro e w15 ⟨rfl, hb⟩; replace BK305 := ak (blk_below (blkd BK305) hb); replace HB := ak (below_step (belowg1 HB GE305) hb); (try clear hb); obtain ⟨hcz16_0, hcz16_1, hcz16_2, hfz16_0, hfz16_1, hfz16_2⟩ := box3 BK305) | (go_at_call 110; (with_reducible refine (impl_Table_isSeat.calls a0_0 _ _ l0_1 _ _ l0_2 a2 true _ ?side1 ?side2 ?side3 ?side4 A8.out).mono ?_); (case side1 => exact cd (Kd.C_below HR0_1.out HB.out)); (case side2 => exact HC0_1.out); (case side3 => exact cd (Kd.C_below HR0_2.out HB.out)); (case side4 => exact HC0_2.out); rintro e w17 ⟨rfl, hb⟩; replace BK305 := ak (blk_below (blkd BK305) hb); replace HB := ak (below_step (belowg1 HB GE305) hb); (try clear hb); obtain ⟨hcz18_0, hcz18_1, hcz18_2, hfz18_0, hfz18_1, hfz18_2⟩ := box3 BK305) | ((with_reducible refine gate_callee (f := 111) rfl ?_); refine goesLa (some 26) rfl Try.func111 #[.agg #[.int .i64 a0_0, .slice A0_1 l0_1.length c0_1, .slice A0_2 l0_2.length c0_2], .int .i64 a1, .int .i64 a2] rfl ?_; (with_reducible refine (impl_Table_way.calls k a0_0 _ _ l0_1 _ _ l0_2 a1 a2 t309 t312 _ ?side1 ?side2 ?side3 ?side4 A10.out).mono ?_); (case side1 => exact cd (Kd.C_below HR0_1.out HB.out)); (case side2 => exact HC0_1.out); (case side3 => exact cd (Kd.C_below HR0_2.out HB.out)); (case side4 => exact HC0_2.out); rintro e w19 ⟨v310, rfl, ho0, hb⟩; refine ⟨_, rfl, ?_⟩; have HO311 := ak (Kd.R_lower ho0 (below_size (belowg1 HB GE305))); replace BK305 := ak (blk_below (blkd BK305) hb); replace HB := ak (below_step (belowg1 HB GE305) hb); (try clear hb); (try clear ho0)))
    go_ret2
    exact ⟨_, er2, by (with_reducible repeat (first | apply Kd.R_alloc | apply Kd.R_drewN | apply Kd.R_drew)); exact HO311.out, belowg1 HB GE305⟩
   ·replace c9 := Bool.eq_false_iff.mpr c9
    subst c9
    have H1 : (some (([] : List Int), false)) = some (r1, r2) := by rw [if_neg (show ¬ (false = true) by decide)] at H; exact H
    clear H
    have H := H1
    clear H1
    simp only [Option.some.injEq, Prod.mk.injEq] at H
    obtain ⟨rfl, rfl⟩ := H
    go_enter Try.func43, Try.ntmps43
    go_wp2_with (first | ((with_reducible refine gate_dst (N := 3) rfl ?_); refine boxev 3 #[.int .i64 a0_0, .slice A0_1 l0_1.length c0_1, .slice A0_2 l0_2.length c0_2] 38 ?_; intro gb305 hg w20 hbox hb; have BK305 := ak (hbox); have GW305 := ak (hgl hg (belowd HB)); have GE305 := ak (hgl hg (belowd HB)); replace HB := ak (below_step (belowd HB) hb); clear hb hbox hg; obtain ⟨hcz21_0, hcz21_1, hcz21_2, hfz21_0, hfz21_1, hfz21_2⟩ := box3 BK305) | ((with_reducible refine gate_callee (f := 59) rfl ?_); refine goesLa (some 9) rfl Try.func59 #[.agg #[.int .i64 a0_0, .slice A0_1 l0_1.length c0_1, .slice A0_2 l0_2.length c0_2]] rfl ?_; (with_reducible refine (impl_GoodTable.calls k a0_0 _ _ l0_1 _ _ l0_2 true _ ?side1 ?side2 ?side3 ?side4 A4.out).mono ?_); (case side1 => exact cd (Kd.C_below HR0_1.out HB.out)); (case side2 => exact HC0_1.out); (case side3 => exact cd (Kd.C_below HR0_2.out HB.out)); (case side4 => exact HC0_2.out); rintro e w22 ⟨rfl, hb⟩; refine ⟨_, rfl, ?_⟩; replace BK305 := ak (blk_below (blkd BK305) hb); replace HB := ak (below_step (belowg1 HB GE305) hb); (try clear hb); obtain ⟨hcz23_0, hcz23_1, hcz23_2, hfz23_0, hfz23_1, hfz23_2⟩ := box3 BK305) | (go_at_call 110; (with_reducible refine (impl_Table_isSeat.calls a0_0 _ _ l0_1 _ _ l0_2 a1 true _ ?side1 ?side2 ?side3 ?side4 A6.out).mono ?_); (case side1 => exact cd (Kd.C_below HR0_1.out HB.out)); (case side2 => exact HC0_1.out); (case side3 => exact cd (Kd.C_below HR0_2.out HB.out)); (case side4 => exact HC0_2.out); rintro e w24 ⟨rfl, hb⟩; replace BK305 := ak (blk_below (blkd BK305) hb); replace HB := ak (below_step (belowg1 HB GE305) hb); (try clear hb); obtain ⟨hcz25_0, hcz25_1, hcz25_2, hfz25_0, hfz25_1, hfz25_2⟩ := box3 BK305) | (go_at_call 110; (with_reducible refine (impl_Table_isSeat.calls a0_0 _ _ l0_1 _ _ l0_2 a2 false _ ?side1 ?side2 ?side3 ?side4 A8.out).mono ?_); (case side1 => exact cd (Kd.C_below HR0_1.out HB.out)); (case side2 => exact HC0_1.out); (case side3 => exact cd (Kd.C_below HR0_2.out HB.out)); (case side4 => exact HC0_2.out); rintro e w26 ⟨rfl, hb⟩; replace BK305 := ak (blk_below (blkd BK305) hb); replace HB := ak (below_step (belowg1 HB GE305) hb); (try clear hb)))
    go_ret2
    exact ⟨_, er2, by first | exact Kd.R_nil _ _ _ _ _ | exact Kd.N_nil _ _ _ _ _ | exact Kd.V_nil _ _ _ _ _ | exact Kd.Q_nil _ _ _ _ _ | exact Kd.S_nil _ _ _ _ _, belowg1 HB GE305⟩
  ·replace c7 := Bool.eq_false_iff.mpr c7
   subst c7
   have H1 : (some (([] : List Int), false)) = some (r1, r2) := by rw [if_neg (show ¬ (false = true) by decide)] at H; exact H
   clear H
   have H := H1
   clear H1
   simp only [Option.some.injEq, Prod.mk.injEq] at H
   obtain ⟨rfl, rfl⟩ := H
   go_enter Try.func43, Try.ntmps43
   go_wp2_with (first | ((with_reducible refine gate_dst (N := 3) rfl ?_); refine boxev 3 #[.int .i64 a0_0, .slice A0_1 l0_1.length c0_1, .slice A0_2 l0_2.length c0_2] 38 ?_; intro gb305 hg w27 hbox hb; have BK305 := ak (hbox); have GW305 := ak (hgl hg (belowd HB)); have GE305 := ak (hgl hg (belowd HB)); replace HB := ak (below_step (belowd HB) hb); clear hb hbox hg; obtain ⟨hcz28_0, hcz28_1, hcz28_2, hfz28_0, hfz28_1, hfz28_2⟩ := box3 BK305) | ((with_reducible refine gate_callee (f := 59) rfl ?_); refine goesLa (some 9) rfl Try.func59 #[.agg #[.int .i64 a0_0, .slice A0_1 l0_1.length c0_1, .slice A0_2 l0_2.length c0_2]] rfl ?_; (with_reducible refine (impl_GoodTable.calls k a0_0 _ _ l0_1 _ _ l0_2 true _ ?side1 ?side2 ?side3 ?side4 A4.out).mono ?_); (case side1 => exact cd (Kd.C_below HR0_1.out HB.out)); (case side2 => exact HC0_1.out); (case side3 => exact cd (Kd.C_below HR0_2.out HB.out)); (case side4 => exact HC0_2.out); rintro e w29 ⟨rfl, hb⟩; refine ⟨_, rfl, ?_⟩; replace BK305 := ak (blk_below (blkd BK305) hb); replace HB := ak (below_step (belowg1 HB GE305) hb); (try clear hb); obtain ⟨hcz30_0, hcz30_1, hcz30_2, hfz30_0, hfz30_1, hfz30_2⟩ := box3 BK305) | (go_at_call 110; (with_reducible refine (impl_Table_isSeat.calls a0_0 _ _ l0_1 _ _ l0_2 a1 false _ ?side1 ?side2 ?side3 ?side4 A6.out).mono ?_); (case side1 => exact cd (Kd.C_below HR0_1.out HB.out)); (case side2 => exact HC0_1.out); (case side3 => exact cd (Kd.C_below HR0_2.out HB.out)); (case side4 => exact HC0_2.out); rintro e w31 ⟨rfl, hb⟩; replace BK305 := ak (blk_below (blkd BK305) hb); replace HB := ak (below_step (belowg1 HB GE305) hb); (try clear hb)))
   go_ret2
   exact ⟨_, er2, by first | exact Kd.R_nil _ _ _ _ _ | exact Kd.N_nil _ _ _ _ _ | exact Kd.V_nil _ _ _ _ _ | exact Kd.Q_nil _ _ _ _ _ | exact Kd.S_nil _ _ _ _ _, belowg1 HB GE305⟩
 ·replace c5 := Bool.eq_false_iff.mpr c5
  subst c5
  have H1 : (some (([] : List Int), false)) = some (r1, r2) := by rw [if_neg (show ¬ (false = true) by decide)] at H; exact H
  clear H
  have H := H1
  clear H1
  simp only [Option.some.injEq, Prod.mk.injEq] at H
  obtain ⟨rfl, rfl⟩ := H
  go_enter Try.func43, Try.ntmps43
  go_wp2_with (first | ((with_reducible refine gate_dst (N := 3) rfl ?_); refine boxev 3 #[.int .i64 a0_0, .slice A0_1 l0_1.length c0_1, .slice A0_2 l0_2.length c0_2] 38 ?_; intro gb305 hg w32 hbox hb; have BK305 := ak (hbox); have GW305 := ak (hgl hg (belowd HB)); have GE305 := ak (hgl hg (belowd HB)); replace HB := ak (below_step (belowd HB) hb); clear hb hbox hg; obtain ⟨hcz33_0, hcz33_1, hcz33_2, hfz33_0, hfz33_1, hfz33_2⟩ := box3 BK305) | ((with_reducible refine gate_callee (f := 59) rfl ?_); refine goesLa (some 9) rfl Try.func59 #[.agg #[.int .i64 a0_0, .slice A0_1 l0_1.length c0_1, .slice A0_2 l0_2.length c0_2]] rfl ?_; (with_reducible refine (impl_GoodTable.calls k a0_0 _ _ l0_1 _ _ l0_2 false _ ?side1 ?side2 ?side3 ?side4 A4.out).mono ?_); (case side1 => exact cd (Kd.C_below HR0_1.out HB.out)); (case side2 => exact HC0_1.out); (case side3 => exact cd (Kd.C_below HR0_2.out HB.out)); (case side4 => exact HC0_2.out); rintro e w34 ⟨rfl, hb⟩; refine ⟨_, rfl, ?_⟩; replace BK305 := ak (blk_below (blkd BK305) hb); replace HB := ak (below_step (belowg1 HB GE305) hb); (try clear hb)))
  go_ret2
  exact ⟨_, er2, by first | exact Kd.R_nil _ _ _ _ _ | exact Kd.N_nil _ _ _ _ _ | exact Kd.V_nil _ _ _ _ _ | exact Kd.Q_nil _ _ _ _ _ | exact Kd.S_nil _ _ _ _ _, belowg1 HB GE305⟩

/-! ### impl_isByte: function 120 -/
def impl_isByte.f (a0 : Int) : Option (Bool) := (impl_within.f a0 0 255).bind fun t313 => (some t313)
set_option maxHeartbeats 8000000 in
set_option maxRecDepth 100000 in
theorem impl_isByte.calls (a0 : Int) (r : Bool) (w : World) (h : impl_isByte.f a0 = some r) :
  Calls Try.prog 120 #[.int .i64 a0] w fun e w' => e = .returned (.bool r) ∧ Drawn0 w w' := by
 have H : ((impl_within.f a0 0 255).bind fun t313 => (some t313)) = some r := h
 clear h; replace H := bS H; obtain ⟨t313, A2, H⟩ := H
 replace H : (some t313) = some r := H
 obtain rfl := Option.some.inj H
 go_enter Try.func120, Try.ntmps120
 go_wp2_with (first | ((with_reducible refine gate_callee (f := 87) rfl ?_); refine goesLa (some 4) rfl Try.func87 #[.int .i64 a0, .int .i64 0, .int .i64 255] rfl ?_; (with_reducible refine (impl_within.calls a0 0 255 t313 _ A2.out).mono ?_); rintro e w' ⟨rfl, ⟨nd, rfl⟩⟩; refine ⟨_, rfl, ?_⟩))
 go_ret
 exact ⟨er, drw⟩

/-! ### slices_Clone_int_int: function 121 -/
def slices_Clone_int_int.f (l0 : List Int) : Option (List Int) := (some (([] : List Int) : List Int)).bind fun y314 => (if y314.length + l0.length < 17592186044416 then (some (y314 ++ l0)) else (none))
theorem clonenil121 (w : World) (a : Option Addr) (m c m' c' : Nat) : (Go.binOp .eql 22 (.slice a m c) (.slice none m' c')).run Try.prog w = .ok (.bool a.isNone) w := Go.Lib.run_eql_slice_nil w 22 3 a m c m' c' Try.underlying22
attribute [local go_sem high] clonenil121
set_option maxHeartbeats 8000000 in
set_option maxRecDepth 100000 in
theorem slices_Clone_int_int.calls_some (ad0 : Addr) (c0 : Nat) (l0 : List Int) (r : List Int) (w : World) (hr0 : Kd.C (Kd.int .i64) w (some ad0) l0.length l0) (hc0 : l0.length ≤ c0) (h : slices_Clone_int_int.f l0 = some r) :
  Calls Try.prog 121 #[.slice (some ad0) l0.length c0] w fun e w' => ∃ v0_ : Value, e = .returned (v0_) ∧ Kd.R (Kd.int .i64) 3 w' w.heap.size (fun _ => True) v0_ r ∧ Below w.heap.size w w' := by
 have HR0 := Aside0.mk hr0; have HC0 := Aside0.mk hc0; clear hr0 hc0
 have HB := Aside0.mk (Below.refl w.heap.size w)
 have H : ((some (([] : List Int) : List Int)).bind fun y314 => (if y314.length + l0.length < 17592186044416 then (some (y314 ++ l0)) else (none))) = some r := h
 clear h
 obtain ⟨y314, hy_⟩ : ∃ y_ : List Int, y_ = (([] : List Int)) := ⟨_, rfl⟩
 replace H : (if y314.length + l0.length < 17592186044416 then (some (y314 ++ l0)) else (none)) = some r := yH
 have Ny314 := ak hy_; clear hy_; replace H := ifS H; obtain ⟨c2, H⟩ := H; have LMc2 := Aside0.mk c2; clear c2
 obtain ⟨y317, hy_⟩ : ∃ y_ : List Int, y_ = (y314 ++ l0) := ⟨_, rfl⟩
 replace H : (some y317) = some r := yH
 have Ny317 := ak hy_; clear hy_
 obtain rfl := Option.some.inj H
 go_enter Try.func121, Try.ntmps121
 go_wp2_with (first | ((with_reducible refine gate_dst (N := 5) rfl ?_); refine Kd.R_lit (Kd.int .i64) _ 3 ?hg (N := 5) ?hd (xs := ([] : List Int)) (inner := []) (ok := fun _ => True) (okp := fun _ => True) ?hr ?hp (fun _ hk => hk) trivial (Below.refl _ _) (Nat.le_refl _) (by simp) ?_; (case hd => rfl); (case hg => rfl); (case hr => first | (go_simp; done) | (go_simp; rfl)); (case hp => exact (Reps.none _ _)); intro v315 w3 ho4 hb hg_ hnew_; clear hg_ hnew_; (first | rw [← Ny314.out] at ho4 | (simp only [Int.reduceToNat] at ho4; rw [← Ny314.out] at ho4)); have HO316 := ak (Kd.R_lower ho4 (below_size (belowd HB))); replace HB := ak (below_step (belowd HB) hb); clear hb ho4) | ((with_reducible refine gate_builtin (b := .append) (xs := #[.tmp 5, .tmp 6]) rfl ?_); at_builtin; refine Kd.R_append_rows (Kd.int .i64) (w0 := w) w.heap.size rfl (.tmp 5) (.tmp 6) 22 3 (.int .i64 0) 8 rfl Try.underlying22 info3 rfl (by decide) (by omega) v315 y314 l0 _ _ _ (fun _ => True) (fun _ => False) rfl rfl ?aO ?aR (fun _ _ h => h) (fun _ h => h.elim) ?aF ?aB ?aS ?aL ?_; (case aR => exact cd (Kd.C_below HR0.out HB.out)); (case aB => exact (belowd HB)); (case aF => exact (fun _ _ => trivial)); (case aO => exact (rdl HO316)); (case aS => exact (below_size (belowd HB))); (case aL => have := LMc2.out; omega); intro v318 w5 ho hb hg hat; rw [← Ny317.out] at ho; replace HB := ak (hb); have HO319 := ak (ho); clear HO316; clear ho hb hg hat))
 go_ret
 exact ⟨_, er2, by (with_reducible repeat (first | apply Kd.R_alloc | apply Kd.R_drewN | apply Kd.R_drew)); exact HO319.out, belowd HB⟩

set_option maxHeartbeats 8000000 in
set_option maxRecDepth 100000 in
theorem slices_Clone_int_int.calls (A0 : Option Addr) (c0 : Nat) (l0 : List Int) (r : List Int) (w : World) (hr0 : Kd.C (Kd.int .i64) w A0 l0.length l0) (hc0 : l0.length ≤ c0) (h : slices_Clone_int_int.f l0 = some r) :
  Calls Try.prog 121 #[.slice A0 l0.length c0] w fun e w' => ∃ v0_ : Value, e = .returned (v0_) ∧ Kd.R (Kd.int .i64) 3 w' w.heap.size (fun _ => True) v0_ r ∧ Below w.heap.size w w' := by
 cases A0 with
 | some ad0 => exact slices_Clone_int_int.calls_some ad0 c0 l0 r w hr0 hc0 h
 | none =>
  have hl : l0 = [] := by
   rcases Nat.eq_zero_or_pos l0.length with h0 | h0
   ·exact List.eq_nil_of_length_eq_zero h0
   ·obtain ⟨ad, he, _⟩ := hr0.2.2 h0
    cases he
  subst hl
  have hr : r = [] := by
   have h' := h
   simp [slices_Clone_int_int.f] at h'
   first | exact h'.symm | exact h'
  subst hr; clear h hr0 hc0
  go_enter Try.func121, Try.ntmps121
  go_wp2
  go_ret
  exact ⟨_, rfl, Kd.R_nil _ _ _ _ _, Below.refl _ _⟩

end Go.Proofs.Ytpibdgknmjjolaa.QFnExactOtherCoins
