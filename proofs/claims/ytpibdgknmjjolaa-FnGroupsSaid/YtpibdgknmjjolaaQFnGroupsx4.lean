-- printed by this session's own program (wip/tools/pp.py: the kit's print.py with changes); Lean checks it
import Derived.Test.YtpibdgknmjjolaaQFnGroupsx0
import Derived.Test.YtpibdgknmjjolaaQFnGroupsx1
import Derived.Test.YtpibdgknmjjolaaQFnGroupsx3
namespace Go.Proofs.Ytpibdgknmjjolaa.QFnGroups
open Go.RowKit Go.Proofs.YtpibdgknmjjolaaW.PrintWords Go.Proofs.YtpibdgknmjjolaaW.PrintLast Go.Proofs.YtpibdgknmjjolaaW.PrintMore
attribute [local go_sem] max2_int min2_int max_two min_two max_three min_three max_four min_four strLss strGtr strLeq strGeq   -- for this text's walks alone
set_option linter.unusedVariables false
set_option linter.unusedSimpArgs false

/-! ### impl_Table_far: function 107 -/
mutual
def impl_Table_far.l0 : Nat → List Int → List Int → Int → Int → List (List Int) → List Int → Option (List Int)
  | 0, _, _, _, _, _, _ => none
  | k + 1, x5, x6, x7, x196000, x196001, x196002 => if x7 < (x6.length : Int) then (impl_Table_far.l1 k x5 x6 x7 (x5.length : Int) 0 x196000 x196001 x196002) else (some x5)
def impl_Table_far.l1 : Nat → List Int → List Int → Int → Int → Int → Int → List (List Int) → List Int → Option (List Int)
  | 0, _, _, _, _, _, _, _, _ => none
  | k + 1, x5, x6, x7, x25, x26, x196000, x196001, x196002 => if x26 < x25 then (if 0 ≤ x26 then (if x26 < (x5.length : Int) then (if (rd x5 x26) < 0 then (if 0 ≤ x7 then (if x7 < (x6.length : Int) then ((impl_Table_pair.f k x196000 x196001 x196002 x26 (rd x6 x7)).bind fun t208 => (if t208 ≥ 0 then (if 0 ≤ (rd x6 x7) then (if (rd x6 x7) < (x5.length : Int) then (if x6.length < 17592186044416 then (impl_Table_far.l1 k (x5.set (x26 : Int).toNat (wrap64 ((rd x5 (rd x6 x7)) + 1))) (x6 ++ [x26]) x7 x25 (wrap64 (x26 + 1)) x196000 x196001 x196002) else (none)) else (none)) else (none)) else (impl_Table_far.l1 k x5 x6 x7 x25 (wrap64 (x26 + 1)) x196000 x196001 x196002))) else (none)) else (none)) else (impl_Table_far.l1 k x5 x6 x7 x25 (wrap64 (x26 + 1)) x196000 x196001 x196002)) else (none)) else (none)) else (impl_Table_far.l0 k x5 x6 (wrap64 (x7 + 1)) x196000 x196001 x196002)
end
def impl_Table_far.f (k : Nat) (a0_0 : Int) (l0_1 : List (List Int)) (l0_2 : List Int) (a1 : Int) : Option (List Int) := (slices_Repeat_int_int.f (([(-1)] : List Int)) a0_0).bind fun t199 => (if 0 ≤ a1 then (if a1 < (t199.length : Int) then (impl_Table_far.l0 k (t199.set (a1 : Int).toNat 0) (([a1] : List Int)) 0 a0_0 l0_1 l0_2) else (none)) else (none))
theorem impl_Table_far.mono_l : ∀ k, (∀ y0 y1 y2 y3 y4 y5, LeO (impl_Table_far.l0 k y0 y1 y2 y3 y4 y5) (impl_Table_far.l0 (k + 1) y0 y1 y2 y3 y4 y5)) ∧ (∀ y0 y1 y2 y3 y4 y5 y6 y7, LeO (impl_Table_far.l1 k y0 y1 y2 y3 y4 y5 y6 y7) (impl_Table_far.l1 (k + 1) y0 y1 y2 y3 y4 y5 y6 y7))
 | 0 => ⟨fun _ _ _ _ _ _ r h => by simp [impl_Table_far.l0] at h, fun _ _ _ _ _ _ _ _ r h => by simp [impl_Table_far.l1] at h⟩
 | k + 1 => by
  obtain ⟨ih0, ih1⟩ := impl_Table_far.mono_l k
  refine ⟨?_, ?_⟩
  ·intro y0 y1 y2 y3 y4 y5
   unfold impl_Table_far.l0
   repeat' (first | (with_reducible first | exact ih0 _ _ _ _ _ _ | exact ih1 _ _ _ _ _ _ _ _ | exact impl_Table_pair.mono _ _ _ _ _ _ | exact LeO.refl _ | exact LeO.none _ | refine LeO.ite ?_ ?_ | refine LeO.bind ?_ (fun _ => ?_)) | exact ih0 _ _ _ _ _ _ | exact ih1 _ _ _ _ _ _ _ _ | exact impl_Table_pair.mono _ _ _ _ _ _ | exact LeO.none _ | refine LeO.ite ?_ ?_ | refine LeO.bind ?_ (fun _ => ?_))
  ·intro y0 y1 y2 y3 y4 y5 y6 y7
   unfold impl_Table_far.l1
   repeat' (first | (with_reducible first | exact ih0 _ _ _ _ _ _ | exact ih1 _ _ _ _ _ _ _ _ | exact impl_Table_pair.mono _ _ _ _ _ _ | exact LeO.refl _ | exact LeO.none _ | refine LeO.ite ?_ ?_ | refine LeO.bind ?_ (fun _ => ?_)) | exact ih0 _ _ _ _ _ _ | exact ih1 _ _ _ _ _ _ _ _ | exact impl_Table_pair.mono _ _ _ _ _ _ | exact LeO.none _ | refine LeO.ite ?_ ?_ | refine LeO.bind ?_ (fun _ => ?_))
theorem impl_Table_far.mono : ∀ a0 a1 a2 a3 k, LeO (impl_Table_far.f k a0 a1 a2 a3) (impl_Table_far.f (k + 1) a0 a1 a2 a3) := by
 intro a0 a1 a2 a3 k
 obtain ⟨ih0, ih1⟩ := impl_Table_far.mono_l k
 unfold impl_Table_far.f
 repeat' (first | (with_reducible first | exact ih0 _ _ _ _ _ _ | exact ih1 _ _ _ _ _ _ _ _ | exact impl_Table_pair.mono _ _ _ _ _ _ | exact LeO.refl _ | exact LeO.none _ | refine LeO.ite ?_ ?_ | refine LeO.bind ?_ (fun _ => ?_)) | exact ih0 _ _ _ _ _ _ | exact ih1 _ _ _ _ _ _ _ _ | exact impl_Table_pair.mono _ _ _ _ _ _ | exact LeO.none _ | refine LeO.ite ?_ ?_ | refine LeO.bind ?_ (fun _ => ?_))
def impl_Table_far.T10 : Bool × List (List Nat × List Nat) := (true, [([], []), ([], []), ([0, 1], [0, 1]), ([2], [2]), ([3], [3]), ([4], [4]), ([5], [5]), ([5], [5]), ([5], [5]), ([5], [5]), ([8, 9, 5], [5, 8, 9]), ([10, 5], [5, 10]), ([6, 7, 11, 5, 5], [5, 6, 7, 11]), ([12, 5], [5, 12]), ([5, 13], [5, 13])])
def impl_Table_far.B10 : List Nat := [0, 0, 3, 7, 15, 31, 63, 63, 63, 63, 831, 1855, 4095, 8191, 16383]
theorem impl_Table_far.tab10 : rtab .any (opsOf Try.f107 10) = impl_Table_far.T10 := by kernel_rfl
theorem impl_Table_far.bits10 : waitsOk impl_Table_far.T10.2 impl_Table_far.B10 = true := by kernel_rfl
set_option maxHeartbeats 8000000 in
set_option maxRecDepth 100000 in
theorem impl_Table_far.calls (k : Nat) (a0_0 : Int) (A0_1 : Option Addr) (c0_1 : Nat) (l0_1 : List (List Int)) (A0_2 : Option Addr) (c0_2 : Nat) (l0_2 : List Int) (a1 : Int) (r : List Int) (w : World) (hr0_1 : Kd.C (Kd.slice 3 (Kd.int .i64)) w A0_1 l0_1.length l0_1) (hc0_1 : l0_1.length ≤ c0_1) (hr0_2 : Kd.C (Kd.int .i64) w A0_2 l0_2.length l0_2) (hc0_2 : l0_2.length ≤ c0_2) (h : impl_Table_far.f k a0_0 l0_1 l0_2 a1 = some r) :
  Calls Try.prog 107 #[.agg #[.int .i64 a0_0, .slice A0_1 l0_1.length c0_1, .slice A0_2 l0_2.length c0_2], .int .i64 a1] w fun e w' => ∃ v0_ : Value, e = .returned (v0_) ∧ Kd.R (Kd.int .i64) 3 w' w.heap.size (fun _ => True) v0_ r ∧ Below w.heap.size w w' := by
 have hu38 := Try.underlying38
 have HR0_1 := Aside0.mk hr0_1; have HC0_1 := Aside0.mk hc0_1; clear hr0_1 hc0_1; have HR0_2 := Aside0.mk hr0_2; have HC0_2 := Aside0.mk hc0_2; clear hr0_2 hc0_2
 have HB := Aside0.mk (Below.refl w.heap.size w)
 have H : ((slices_Repeat_int_int.f (([(-1)] : List Int)) a0_0).bind fun t199 => (if 0 ≤ a1 then (if a1 < (t199.length : Int) then (impl_Table_far.l0 k (t199.set (a1 : Int).toNat 0) (([a1] : List Int)) 0 a0_0 l0_1 l0_2) else (none)) else (none))) = some r := h
 clear h
 obtain ⟨y196, hy_⟩ : ∃ y_ : List Int, y_ = (([(-1)] : List Int)) := ⟨_, rfl⟩
 replace H : ((slices_Repeat_int_int.f y196 a0_0).bind fun t199 => (if 0 ≤ a1 then (if a1 < (t199.length : Int) then (impl_Table_far.l0 k (t199.set (a1 : Int).toNat 0) (([a1] : List Int)) 0 a0_0 l0_1 l0_2) else (none)) else (none))) = some r := yH
 have Ny196 := ak hy_; clear hy_; replace H := bS H; obtain ⟨t199, A3, H⟩ := H
 replace H : (if 0 ≤ a1 then (if a1 < (t199.length : Int) then (impl_Table_far.l0 k (t199.set (a1 : Int).toNat 0) (([a1] : List Int)) 0 a0_0 l0_1 l0_2) else (none)) else (none)) = some r := H
 replace H := ifS H; obtain ⟨c4, H⟩ := H; have c4b0 := decide_eq_true c4; clear c4; replace H := ifS H; obtain ⟨c5, H⟩ := H; have c5b0 := decide_eq_true c5; clear c5
 obtain ⟨y202, hy_⟩ : ∃ y_ : List Int, y_ = (t199.set (a1 : Int).toNat 0) := ⟨_, rfl⟩
 replace H : (impl_Table_far.l0 k y202 (([a1] : List Int)) 0 a0_0 l0_1 l0_2) = some r := yH
 have Ny202 := ak hy_; clear hy_
 obtain ⟨y203, hy_⟩ : ∃ y_ : List Int, y_ = (([a1] : List Int)) := ⟨_, rfl⟩
 replace H : (impl_Table_far.l0 k y202 y203 0 a0_0 l0_1 l0_2) = some r := yH
 have Ny203 := ak hy_; clear hy_
 have H' := Aside0.mk H
 clear H
 go_enter Try.func107, Try.ntmps107
 go_wp2_with (first | ((with_reducible refine gate_dst (N := 2) rfl ?_); refine boxev 2 #[.int .i64 a0_0, .slice A0_1 l0_1.length c0_1, .slice A0_2 l0_2.length c0_2] 38 ?_; intro gb195 hg w7 hbox hb; have BK195 := ak (hbox); have GW195 := ak (hgl hg (belowd HB)); have GE195 := ak (hgl hg (belowd HB)); replace HB := ak (below_step (belowd HB) hb); clear hb hbox hg) | ((with_reducible refine gate_dst (N := 9) rfl ?_); refine Kd.R_lit (Kd.int .i64) _ 3 ?hg (N := 9) ?hd (xs := ([(-1)] : List Int)) (inner := [.int .i64 (-1)]) (ok := fun _ => True) (okp := fun _ => True) ?hr ?hp (fun _ hk => hk) trivial (Below.refl _ _) (Nat.le_refl _) (by simp) ?_; (case hd => rfl); (case hg => rfl); (case hr => first | (go_simp; done) | (go_simp; rfl)); (case hp => exact (Reps.one (show Kd.M (Kd.int .i64) _ _ _ (-1) [.int .i64 (-1)] from rfl) (Reps.none _ _))); intro v197 w8 ho9 hb hg_ hnew_; clear hg_ hnew_; (first | rw [← Ny196.out] at ho9 | (simp only [Int.reduceToNat] at ho9; rw [← Ny196.out] at ho9)); have HO198 := ak (Kd.R_lower ho9 (below_size (belowg1 HB GE195))); replace BK195 := ak (blk_below (blkd BK195) hb); replace HB := ak (below_step (belowg1 HB GE195) hb); clear hb ho9; obtain ⟨hcz10_0, hcz10_1, hcz10_2, hfz10_0, hfz10_1, hfz10_2⟩ := box3 BK195; obtain ⟨Ao11, co11, eo11⟩ := Kd.R_slice HO198.out; subst eo11) | ((with_reducible refine gate_callee (f := 143) rfl ?_); refine goesLa (some 12) rfl Try.func143 #[.slice Ao11 y196.length co11, .int .i64 a0_0] rfl ?_; (with_reducible refine (slices_Repeat_int_int.calls _ _ y196 a0_0 t199 _ ?side1 ?side2 A3.out).mono ?_); (case side1 => exact cd (Kd.R_reads' HO198.out).2.2); (case side2 => exact (Kd.R_reads' HO198.out).2.1); rintro e w12 ⟨v200, rfl, ho0, hb⟩; refine ⟨_, rfl, ?_⟩; have HO201 := ak (Kd.R_lower (Kd.R_new' ho0 (Kd.R_lt (rdl HO198))) (below_size (belowg1 HB GE195))); replace HO198 := ak (Kd.R_elder' (rdl HO198) (Kd.R_base ho0) hb); replace BK195 := ak (blk_below (blkd BK195) hb); replace HB := ak (below_step (belowg1 HB GE195) hb); (try clear hb); (try clear ho0); have p6 : 0 ≤ (a1 : Int) := da; have q6 : (a1 : Int) < ((t199.length : Int) : Int) := da; obtain ⟨go6, co6, eo6, gb6, gl6, cl6, HG6⟩ := Kd.R_form HO201.out (by omega); (first | cases eo6 | (injection eo6 with ea_ en_ ec_; (first | subst ea_ | (injection ea_ with ea_; subst ea_)); subst ec_; clear en_)); have GB6 := Aside0.mk gb6; have GG6 := Aside0.mk HG6; clear gb6 gl6 HG6; obtain ⟨hx6_0, hf6_0⟩ := Kd.R_celln 0 HO201.out (a1 : Int) p6 q6; replace p6 := eq_true p6; replace q6 := eq_true q6; have n_ := Aside0.mk (Kd.R_mono (ok' := (fun k_ => some k_ ≠ (.slice Ao11 y196.length co11 : Value).ownBlock)) HO201.out (fun k_ hk => hk.2)); clear HO201; have HO201 := n_; clear n_; obtain ⟨hy13_, hz13_⟩ := Kd.R_celln 0 HO201.out (a1 : Int) (da) (da); have HP13 := Kd.R_putg HO201.out (a1 : Int) 0) | ((with_reducible refine gate_store (t := 3) (p := 15) rfl ?_); refine store_event (t := 3) (p := 15) (v := ?vo_w14) (w1 := (w12.setCell ⟨go6, (a1 : Int).toNat, none⟩ (.int .i64 0))) ?hg ?ho ?hn ?hr ?_; (case ho => rfl); (case hg => rfl); (case hn => rfl); (case hr => first | (go_simp; done) | (go_simp; rfl)); intro w14 hw; have hg : w12.grownBy w14 (some go6) := (by rw [hw]; exact HP13.2); have hp_ : Kd.R (Kd.int .i64) 3 w14 w.heap.size (fun k_ => some k_ ≠ (.slice Ao11 y196.length co11 : Value).ownBlock) (.slice (some ⟨go6, 0, none⟩) t199.length co6) y202 := (by rw [hw, Ny202.out]; exact HP13.1); clear HP13; replace BK195 := ak (blk_grown (blkd BK195) hg (Kd.R_ne HO201.out BK195.out (by decide))); replace HO198 := ak (Kd.R_after (v := (.slice (some ⟨go6, 0, none⟩) t199.length co6)) (v1 := (.slice (some ⟨go6, 0, none⟩) t199.length co6)) (ok := (fun _ => True)) (rdl HO198) hg (.inl rfl)); replace HO201 := ak (hp_); replace HB := ak ((by rw [hw]; exact below_set (HB.out) GB6.out : Below w.heap.size w w14)); clear hg hw hp_) | ((with_reducible refine gate_dst (N := 17) rfl ?_); refine Kd.R_lit (Kd.int .i64) _ 3 ?hg (N := 17) ?hd (xs := ([a1] : List Int)) (inner := [.int .i64 a1]) (ok := fun _ => True) (okp := fun _ => True) ?hr ?hp (fun _ hk => hk) trivial (Below.refl _ _) (Nat.le_refl _) (by simp) ?_; (case hd => rfl); (case hg => rfl); (case hr => first | (go_simp; done) | (go_simp; rfl)); (case hp => exact (Reps.one (show Kd.M (Kd.int .i64) _ _ _ a1 [.int .i64 a1] from rfl) (Reps.none _ _))); intro v204 w15 ho16 hb hg_ hnew_; clear hg_ hnew_; (first | rw [← Ny203.out] at ho16 | (simp only [Int.reduceToNat] at ho16; rw [← Ny203.out] at ho16)); have HO205 := ak (Kd.R_lower (Kd.R_new' (Kd.R_new' ho16 (Kd.R_lt (rdl HO198))) (Kd.R_lt (rdl HO201))) (below_size (belowg1 HB GE195))); replace HO198 := ak (Kd.R_elder' (rdl HO198) (Kd.R_base ho16) hb); replace HO201 := ak (Kd.R_elder' (rdl HO201) (Kd.R_base ho16) hb); replace BK195 := ak (blk_below (blkd BK195) hb); replace HB := ak (below_step (belowg1 HB GE195) hb); clear hb ho16))
 go_loopg [6, 7] k (fun kq v6 v7 w' => ∃ (x5_1 : List Int) (x6_1 : List Int) (x7_1 : Int), v7 = .int .i64 x7_1 ∧ Aside0 (impl_Table_far.l0 kq x5_1 x6_1 x7_1 a0_0 l0_1 l0_2 = some r) ∧ Aside0 (kq ≤ k) ∧ Aside0 (Kd.R (Kd.int .i64) 3 w' w.heap.size (fun k_ => some k_ ≠ (v6 : Value).ownBlock) (.slice (some ⟨go6, 0, none⟩) t199.length co6) x5_1) ∧ Aside0 (Kd.R (Kd.int .i64) 3 w' w.heap.size (fun k_ => some k_ ≠ ((.slice (some ⟨go6, 0, none⟩) t199.length co6) : Value).ownBlock) v6 x6_1) ∧ Aside0 (w'.heap[gb195]? = some (.cells #[.int .i64 a0_0, (.slice A0_1 l0_1.length c0_1), (.slice A0_2 l0_2.length c0_2)] 38 (0, 0))) ∧ Aside0 (Below w.heap.size w w'))
 case atStart => exact ⟨(y202), (y203), (0), er, H', ⟨Nat.le_refl _⟩, ⟨by (with_reducible repeat (first | apply Kd.R_alloc | apply Kd.R_drewN | apply Kd.R_drew)); exact Kd.R_mono HO201.out (fun _ hk => hk.2)⟩, ⟨by (with_reducible repeat (first | apply Kd.R_alloc | apply Kd.R_drewN | apply Kd.R_drew)); exact Kd.R_mono HO205.out (fun _ hk => hk.2)⟩, ⟨blkd BK195⟩, ⟨belowg1 HB GE195⟩⟩
 case round =>
  clear H'
  (try clear c4b0); (try clear c5b0); (try clear p6); (try clear q6); (try clear hcz10_0); (try clear hcz10_1); (try clear hcz10_2); (try clear hfz10_0); (try clear hfz10_1); (try clear hfz10_2); (try clear hx6_0)
  obtain ⟨x5_1, x6_1, x7_1, rfl, HA, HK1, HO_5, HO_6, BK195, HB⟩ := hrel
  have hl5_1 := (Kd.R_reads' HO_5.out).1
  rw [hl5_1] at HO_5
  (try simp only [hl5_1])
  (try simp only [hl5_1] at BK195)
  (try simp only [hl5_1] at HO_6)
  cases gk with
  | zero => exact absurd HA.out (by simp [impl_Table_far.l0])
  | succ k1 =>
   have H := HA.out; clear HA
   simp only [impl_Table_far.l0] at H
   by_cases c17 : x7_1 < (x6_1.length : Int)
   ·rw [if_pos c17] at H
    have c17b0 : decide (x7_1 < (x6_1.length : Int)) = true := decide_eq_true c17
    clear c17
    have H' := Aside0.mk H
    clear H
    obtain ⟨Ao18, co18, eo18⟩ := Kd.R_slice HO_6.out
    subst eo18; go_wp2
    go_loopg [6, 26] k1 (fun kq v6 v26 w' => ∃ (x5_2 : List Int) (x6_2 : List Int) (x26_2 : Int), v26 = .int .i64 x26_2 ∧ Aside0 (impl_Table_far.l1 kq x5_2 x6_2 x7_1 (x5_1.length : Int) x26_2 a0_0 l0_1 l0_2 = some r) ∧ Aside0 (kq ≤ k1) ∧ Aside0 (Kd.R (Kd.int .i64) 3 w' w.heap.size (fun k_ => some k_ ≠ (v6 : Value).ownBlock) (.slice (some ⟨go6, 0, none⟩) x5_1.length co6) x5_2) ∧ Aside0 (Kd.R (Kd.int .i64) 3 w' w.heap.size (fun k_ => some k_ ≠ ((.slice (some ⟨go6, 0, none⟩) x5_1.length co6) : Value).ownBlock) v6 x6_2) ∧ Aside0 (w'.heap[gb195]? = some (.cells #[.int .i64 a0_0, (.slice A0_1 l0_1.length c0_1), (.slice A0_2 l0_2.length c0_2)] 38 (0, 0))) ∧ Aside0 (Below w.heap.size w w'))
    case atStart => exact ⟨(x5_1), (x6_1), (0), er, H', ⟨Nat.le_refl _⟩, ⟨by (try simp only [hl5_1]); (with_reducible repeat (first | apply Kd.R_alloc | apply Kd.R_drewN | apply Kd.R_drew)); exact HO_5.out⟩, ⟨by (try simp only [hl5_1]); (with_reducible repeat (first | apply Kd.R_alloc | apply Kd.R_drewN | apply Kd.R_drew)); exact HO_6.out⟩, ⟨by (try simp only [hl5_1]); (with_reducible repeat (first | refine blk_drewN ?_ _ | refine blk_drew ?_ | refine blk_alloc ?_ _)); exact BK195.out⟩, ⟨belowg1 HB GE195⟩⟩
    case round =>
     clear H'
     (try clear c17b0)
     obtain ⟨x5_2, x6_2, x26_2, rfl, HA, HK2, HO_5, HO_6, BK195, HB⟩ := hrel
     have hl5_2 := (Kd.R_reads' HO_5.out).1
     rw [hl5_2] at HO_5
     (try simp only [hl5_2])
     (try simp only [hl5_2] at BK195)
     (try simp only [hl5_2] at HO_6)
     cases gk with
     | zero => exact absurd HA.out (by simp [impl_Table_far.l1])
     | succ k2 =>
      have H := HA.out; clear HA
      simp only [impl_Table_far.l1] at H
      by_cases c19 : x26_2 < (x5_1.length : Int)
      ·rw [if_pos c19] at H
       have c19b0 : decide (x26_2 < (x5_1.length : Int)) = true := decide_eq_true c19
       clear c19; replace H := ifS H; obtain ⟨c20, H⟩ := H; have c20b0 := decide_eq_true c20; clear c20; replace H := ifS H; obtain ⟨c21, H⟩ := H; have c21b0 := decide_eq_true c21; clear c21
       by_cases c22 : (rd x5_2 x26_2) < 0
       ·rw [if_pos c22] at H
        have c22b0 : decide ((rd x5_2 x26_2) < 0) = true := decide_eq_true c22
        clear c22; replace H := ifS H; obtain ⟨c23, H⟩ := H; have c23b0 := decide_eq_true c23; clear c23; replace H := ifS H; obtain ⟨c24, H⟩ := H; have c24b0 := decide_eq_true c24; clear c24; replace H := bS H; obtain ⟨t208, A25, H⟩ := H
        replace H : (if t208 ≥ 0 then (if 0 ≤ (rd x6_2 x7_1) then (if (rd x6_2 x7_1) < (x5_2.length : Int) then (if x6_2.length < 17592186044416 then (impl_Table_far.l1 k2 (x5_2.set (x26_2 : Int).toNat (wrap64 ((rd x5_2 (rd x6_2 x7_1)) + 1))) (x6_2 ++ [x26_2]) x7_1 (x5_1.length : Int) (wrap64 (x26_2 + 1)) a0_0 l0_1 l0_2) else (none)) else (none)) else (none)) else (impl_Table_far.l1 k2 x5_2 x6_2 x7_1 (x5_1.length : Int) (wrap64 (x26_2 + 1)) a0_0 l0_1 l0_2)) = some r := H
        by_cases c26 : t208 ≥ 0
        ·rw [if_pos c26] at H
         have c26b0 : decide (0 ≤ t208) = true := decide_eq_true c26
         clear c26; replace H := ifS H; obtain ⟨c27, H⟩ := H; have c27b0 := decide_eq_true c27; clear c27; replace H := ifS H; obtain ⟨c28, H⟩ := H; have c28b0 := decide_eq_true c28; clear c28
         obtain ⟨y211, hy_⟩ : ∃ y_ : List Int, y_ = (x5_2.set (x26_2 : Int).toNat (wrap64 ((rd x5_2 (rd x6_2 x7_1)) + 1))) := ⟨_, rfl⟩
         replace H : (if x6_2.length < 17592186044416 then (impl_Table_far.l1 k2 y211 (x6_2 ++ [x26_2]) x7_1 (x5_1.length : Int) (wrap64 (x26_2 + 1)) a0_0 l0_1 l0_2) else (none)) = some r := yH
         have Ny211 := ak hy_; clear hy_; replace H := ifS H; obtain ⟨c30, H⟩ := H; have LMc30 := Aside0.mk c30; clear c30
         obtain ⟨y212, hy_⟩ : ∃ y_ : List Int, y_ = (x6_2 ++ [x26_2]) := ⟨_, rfl⟩
         replace H : (impl_Table_far.l1 k2 y211 y212 x7_1 (x5_1.length : Int) (wrap64 (x26_2 + 1)) a0_0 l0_1 l0_2) = some r := yH
         have Ny212 := ak hy_; clear hy_
         have H' := Aside0.mk H
         clear H
         try go_wp2
         replace HO_5 := ak (Kd.R_drew HO_5.out)
         replace HO_6 := ak (Kd.R_drew HO_6.out)
         replace BK195 := ak (blk_drew BK195.out)
         replace HB := ak (below_drew1 HB.out)
         have p206 : 0 ≤ (x26_2 : Int) := da
         have q206 : x26_2 < (x5_2.length : Int) := da
         obtain ⟨ad206, e206, hx206_0⟩ := Kd.at_int (Kd.R_reads' HO_5.out).2.2 x26_2 p206 q206
         obtain rfl : (⟨go6, 0, none⟩ : Addr) = ad206 := (by injection e206)
         (first | simp only [add_plain] at hx206_0 | simp only [add_at] at hx206_0 | simp only [Addr.add, Nat.zero_add] at hx206_0 | skip)
         replace p206 := eq_true p206; replace q206 := eq_true q206
         obtain ⟨Ao32, co32, eo32⟩ := Kd.R_slice HO_6.out
         (first | subst eo32 | (injection eo32 with f1_ f2_ f3_; have f4_ := f1_.symm; have f5_ := f3_.symm; clear f1_ f2_ f3_; subst f4_; subst f5_))
         have p207 : 0 ≤ (x7_1 : Int) := da
         have q207 : x7_1 < (x6_2.length : Int) := da
         obtain ⟨ad207, e207, hx207_0⟩ := Kd.at_int (Kd.R_reads' HO_6.out).2.2 x7_1 p207 q207
         cases e207
         replace p207 := eq_true p207; replace q207 := eq_true q207
         refine start_ (n := 15) (S := fun w' => w'.cell? ⟨gb195, 0, none⟩ = some (.int .i64 a0_0) ∧ w'.cell? ⟨gb195, 1, none⟩ = some (.slice A0_1 l0_1.length c0_1) ∧ w'.cell? ⟨gb195, 2, none⟩ = some (.slice A0_2 l0_2.length c0_2) ∧ w'.cell? ⟨go6, (x26_2).toNat, none⟩ = some (.int .i64 (rd x5_2 x26_2)) ∧ w'.cell? (ad207.add (x7_1).toNat) = some (.int .i64 (rd x6_2 x7_1))) (ds := []) (bl 15 0) (by kernel_rfl) rfl rfl ⟨bq BK195 0, bq BK195 1, bq BK195 2, hx206_0, hx207_0⟩ (fun hHeld => ?_); refine with_tabW impl_Table_far.tab10 impl_Table_far.bits10 (fun HT_ HW_ => ?_)
         generalize wr.drew = w31 at HO_5 HO_6 BK195 HB hx206_0 hx207_0 hHeld ⊢
         refine pureA 0 (some 29) 15 1 HT_ ?_
         refine pureA 1 (some 30) 15 3 HT_ ?_
         refine pureA 2 (some 31) 15 7 HT_ ?_
         refine takeA 3 (some 32) 15 15 HT_ HW_ hHeld ?_ (hy := by rintro w' ⟨s0, s1, s2, s3, s4⟩; go_simp; with_reducible rfl)
         refine pureA 4 (some 33) 15 31 HT_ ?_
         refine pureA 5 (some 34) 15 63 HT_ ?_
         refine pureA 7 (some 36) 15 191 HT_ ?_
         refine pureA 8 (some 37) 15 447 HT_ ?_
         refine pureA 9 (some 38) 15 959 HT_ ?_
         refine pureA 10 (some 39) 15 1983 HT_ ?_
         refine takeA 6 (some 35) 15 2047 HT_ HW_ hHeld ?_ (hy := by rintro w' ⟨s0, s1, s2, s3, s4⟩; go_simp; with_reducible rfl)
         refine takeA 11 (some 40) 15 4095 HT_ HW_ hHeld ?_ (hy := by rintro w' ⟨s0, s1, s2, s3, s4⟩; go_simp; with_reducible rfl)
         refine oneA 12 (some 41) 15 8191 HT_ (fun K hK => ?_)
         refine goes_ Try.func144 (by kernel_rfl) rfl #[.agg #[.int .i64 a0_0, .slice A0_1 l0_1.length c0_1, .slice A0_2 l0_2.length c0_2], .int .i64 x26_2, .int .i64 (rd x6_2 x7_1)] (by rfl) rfl rfl (by (try simp only [List.map_toArray, List.map_cons, List.map_nil]); first | done | rfl | (simp only [List.length_drop, List.length_take]; rfl)) ?_
         with_reducible refine (impl_Table_pair.calls k2 a0_0 _ _ l0_1 _ _ l0_2 x26_2 (rd x6_2 x7_1) t208 _ ?side1 ?side2 ?side3 ?side4 A25.out).mono ?_
         (case side1 => exact cd (Kd.C_below HR0_1.out HB.out))
         (case side2 => exact HC0_1.out)
         (case side3 => exact cd (Kd.C_below HR0_2.out HB.out))
         (case side4 => exact HC0_2.out)
         rintro e w33 ⟨rfl, hb⟩
         have HS3_ := (hb.cell (World.block_lt_of_cell? _ _ (hHeld.2.2.2.1))).trans (hHeld.2.2.2.1)
         have HS4_ := (hb.cell (World.block_lt_of_cell? _ _ (hHeld.2.2.2.2))).trans (hHeld.2.2.2.2)
         refine ⟨_, rfl, ?_⟩
         replace HO_5 := ak (Kd.R_below (rdl HO_5) hb)
         replace HO_6 := ak (Kd.R_below (rdl HO_6) hb)
         replace BK195 := ak (blk_below (blkd BK195) hb)
         replace HB := ak (below_step (belowg1 HB GE195) hb)
         (try clear hb); (try clear hb2); (try clear hk); (try clear hi)
         refine hK.out _ _ ⟨bq BK195 0, bq BK195 1, bq BK195 2, HS3_, HS4_⟩ (fun hHeld => ?_)
         clear hK K
         refine norm_ (a' := ?_) ?_ ?_
         rotate_left
         ·show Act.put _ (some 41) _ = _
          simp only [Act.put, List.setIfInBounds_toArray, List.set_cons_zero, List.set_cons_succ, i64_w, i32_w]
          rfl
         refine pureA 13 (some 42) 15 16383 HT_ ?_
         refine pureA 14 (some 43) 15 32767 HT_ ?_
         refine done_ (done_of HT_.out (by kernel_rfl)) ?_
         have p209 : 0 ≤ (x7_1 : Int) := da
         have q209 : x7_1 < (x6_2.length : Int) := da
         obtain ⟨ad209, e209, hx209_0⟩ := Kd.at_int (Kd.R_reads' HO_6.out).2.2 x7_1 p209 q209
         obtain rfl : ad207 = ad209 := (by injection e209)
         replace p209 := eq_true p209; replace q209 := eq_true q209
         have p210 : 0 ≤ ((rd x6_2 x7_1) : Int) := da
         have q210 : (rd x6_2 x7_1) < (x5_2.length : Int) := da
         obtain ⟨ad210, e210, hx210_0⟩ := Kd.at_int (Kd.R_reads' HO_5.out).2.2 (rd x6_2 x7_1) p210 q210
         obtain rfl : (⟨go6, 0, none⟩ : Addr) = ad210 := (by injection e210)
         (first | simp only [add_plain] at hx210_0 | simp only [add_at] at hx210_0 | simp only [Addr.add, Nat.zero_add] at hx210_0 | skip)
         replace p210 := eq_true p210; replace q210 := eq_true q210
         have p29 : 0 ≤ (x26_2 : Int) := da
         have q29 : (x26_2 : Int) < ((x5_2.length : Int) : Int) := da
         obtain ⟨hx29_0, hf29_0⟩ := Kd.R_celln 0 HO_5.out (x26_2 : Int) p29 q29
         replace p29 := eq_true p29; replace q29 := eq_true q29
         obtain ⟨hy34_, hz34_⟩ := Kd.R_celln 0 HO_5.out (x26_2 : Int) (da) (da)
         have HP34 := Kd.R_putg HO_5.out (x26_2 : Int) (wrap64 ((rd x5_2 (rd x6_2 x7_1)) + 1))
         try go_wp2_with (first | ((with_reducible refine gate_store (t := 3) (p := 54) rfl ?_); refine store_event (t := 3) (p := 54) (v := ?vo_w35) (w1 := (w33.setCell ⟨go6, (x26_2 : Int).toNat, none⟩ (.int .i64 (wrap64 ((rd x5_2 (rd x6_2 x7_1)) + 1))))) ?hg ?ho ?hn ?hr ?_; (case ho => rfl); (case hg => rfl); (case hn => rfl); (case hr => first | (go_simp; done) | (go_simp; rfl)); intro w35 hw; have hg : w33.grownBy w35 (some go6) := (by rw [hw]; exact HP34.2); have hp_ : Kd.R (Kd.int .i64) 3 w35 w.heap.size (fun k_ => some k_ ≠ (.slice (some ad207) x6_2.length co32 : Value).ownBlock) (.slice (some ⟨go6, 0, none⟩) x5_2.length co6) y211 := (by rw [hw, Ny211.out]; exact HP34.1); clear HP34; replace HO_6 := ak (Kd.R_after (v := (.slice (some ⟨go6, 0, none⟩) x5_2.length co6)) (v1 := (.slice (some ⟨go6, 0, none⟩) x5_2.length co6)) (ok := (fun _ => True)) (by (with_reducible repeat (first | apply Kd.R_alloc | apply Kd.R_drewN | apply Kd.R_drew)); exact Kd.R_mono HO_6.out (fun _ hk => ⟨trivial, hk⟩)) hg (.inl rfl)); replace BK195 := ak (blk_grown (blkd BK195) hg (Kd.R_ne HO_5.out BK195.out (by decide))); replace HO_5 := ak (hp_); replace HB := ak ((by rw [hw]; exact below_set (HB.out) GB6.out : Below w.heap.size w w35)); clear hg hw hp_) | ((with_reducible refine gate_builtin (b := .append) (xs := #[.tmp 55, .tmp 57]) rfl ?_); at_builtin; refine Kd.R_append (Kd.int .i64) (w0 := w) w.heap.size rfl (.tmp 55) (.tmp 57) 22 3 (.int .i64 0) 8 rfl Try.underlying22 info3 rfl (by decide) (by omega) (.slice (some ad207) x6_2.length co32) x6_2 x26_2 [.int .i64 x26_2] (fun k_ => some k_ ≠ (.slice (some ⟨go6, 0, none⟩) x5_2.length co6 : Value).ownBlock) (fun _ => False) rfl rfl ?aP (fun _ hk => hk.elim) ?aF ?aO ?aB ?aS ?aL ?_; (case aP => exact rfl); (case aB => exact (belowg1 HB GE195)); (case aF => exact (fun k_ hk => Kd.fresh' (Kd.R_lt (rdl HO_5)) k_ hk)); (case aO => exact (by (with_reducible repeat (first | apply Kd.R_alloc | apply Kd.R_drewN | apply Kd.R_drew)); exact Kd.R_mono HO_6.out (fun _ hk => hk.2))); (case aS => exact (below_size (belowg1 HB GE195))); (case aL => have := LMc30.out; omega); intro v213 w36 ho hb hg hat; rw [← Ny212.out] at ho; replace HO_5 := ak (Kd.R_after (ok := (fun _ => True)) (by (with_reducible repeat (first | apply Kd.R_alloc | apply Kd.R_drewN | apply Kd.R_drew)); exact Kd.R_mono HO_5.out (fun _ hk => ⟨trivial, hk⟩)) hg hat); replace BK195 := ak (blk_grown (blkd BK195) hg (Kd.R_ne HO_6.out BK195.out (by decide))); replace HB := ak (hb); have HO214 := ak (ho); clear HO_6; clear ho hb hg hat))
         (try simp only [← hl5_2])
         go_roundg k2
         case measure => have := HK1.out; have := HK2.out; omega
         case rel => exact ⟨(y211), (y212), (wrap64 (x26_2 + 1)), er, H', ⟨by have := HK1.out; have := HK2.out; omega⟩, ⟨by (try simp only [hl5_1]); (try simp only [hl5_2]); (with_reducible repeat (first | apply Kd.R_alloc | apply Kd.R_drewN | apply Kd.R_drew)); exact Kd.R_mono HO_5.out (fun _ hk => hk.2)⟩, ⟨by (try simp only [hl5_1]); (try simp only [hl5_2]); (with_reducible repeat (first | apply Kd.R_alloc | apply Kd.R_drewN | apply Kd.R_drew)); exact HO214.out⟩, ⟨by (try simp only [hl5_1]); (try simp only [hl5_2]); (with_reducible repeat (first | refine blk_drewN ?_ _ | refine blk_drew ?_ | refine blk_alloc ?_ _)); exact BK195.out⟩, ⟨belowg1 HB GE195⟩⟩
        ·rw [if_neg c26] at H
         have c26b0 : decide (0 ≤ t208) = false := decide_eq_false c26
         clear c26
         have H' := Aside0.mk H
         clear H
         try go_wp2
         replace HO_5 := ak (Kd.R_drew HO_5.out)
         replace HO_6 := ak (Kd.R_drew HO_6.out)
         replace BK195 := ak (blk_drew BK195.out)
         replace HB := ak (below_drew1 HB.out)
         have p206 : 0 ≤ (x26_2 : Int) := da
         have q206 : x26_2 < (x5_2.length : Int) := da
         obtain ⟨ad206, e206, hx206_0⟩ := Kd.at_int (Kd.R_reads' HO_5.out).2.2 x26_2 p206 q206
         obtain rfl : (⟨go6, 0, none⟩ : Addr) = ad206 := (by injection e206)
         (first | simp only [add_plain] at hx206_0 | simp only [add_at] at hx206_0 | simp only [Addr.add, Nat.zero_add] at hx206_0 | skip)
         replace p206 := eq_true p206; replace q206 := eq_true q206
         obtain ⟨Ao38, co38, eo38⟩ := Kd.R_slice HO_6.out
         (first | subst eo38 | (injection eo38 with f1_ f2_ f3_; have f4_ := f1_.symm; have f5_ := f3_.symm; clear f1_ f2_ f3_; subst f4_; subst f5_))
         have p207 : 0 ≤ (x7_1 : Int) := da
         have q207 : x7_1 < (x6_2.length : Int) := da
         obtain ⟨ad207, e207, hx207_0⟩ := Kd.at_int (Kd.R_reads' HO_6.out).2.2 x7_1 p207 q207
         cases e207
         replace p207 := eq_true p207; replace q207 := eq_true q207
         refine start_ (n := 15) (S := fun w' => w'.cell? ⟨gb195, 0, none⟩ = some (.int .i64 a0_0) ∧ w'.cell? ⟨gb195, 1, none⟩ = some (.slice A0_1 l0_1.length c0_1) ∧ w'.cell? ⟨gb195, 2, none⟩ = some (.slice A0_2 l0_2.length c0_2) ∧ w'.cell? ⟨go6, (x26_2).toNat, none⟩ = some (.int .i64 (rd x5_2 x26_2)) ∧ w'.cell? (ad207.add (x7_1).toNat) = some (.int .i64 (rd x6_2 x7_1))) (ds := []) (bl 15 0) (by kernel_rfl) rfl rfl ⟨bq BK195 0, bq BK195 1, bq BK195 2, hx206_0, hx207_0⟩ (fun hHeld => ?_); refine with_tabW impl_Table_far.tab10 impl_Table_far.bits10 (fun HT_ HW_ => ?_)
         generalize wr.drew = w37 at HO_5 HO_6 BK195 HB hx206_0 hx207_0 hHeld ⊢
         refine pureA 0 (some 29) 15 1 HT_ ?_
         refine pureA 1 (some 30) 15 3 HT_ ?_
         refine pureA 2 (some 31) 15 7 HT_ ?_
         refine takeA 3 (some 32) 15 15 HT_ HW_ hHeld ?_ (hy := by rintro w' ⟨s0, s1, s2, s3, s4⟩; go_simp; with_reducible rfl)
         refine pureA 4 (some 33) 15 31 HT_ ?_
         refine pureA 5 (some 34) 15 63 HT_ ?_
         refine pureA 7 (some 36) 15 191 HT_ ?_
         refine pureA 8 (some 37) 15 447 HT_ ?_
         refine pureA 9 (some 38) 15 959 HT_ ?_
         refine pureA 10 (some 39) 15 1983 HT_ ?_
         refine takeA 6 (some 35) 15 2047 HT_ HW_ hHeld ?_ (hy := by rintro w' ⟨s0, s1, s2, s3, s4⟩; go_simp; with_reducible rfl)
         refine takeA 11 (some 40) 15 4095 HT_ HW_ hHeld ?_ (hy := by rintro w' ⟨s0, s1, s2, s3, s4⟩; go_simp; with_reducible rfl)
         refine oneA 12 (some 41) 15 8191 HT_ (fun K hK => ?_)
         refine goes_ Try.func144 (by kernel_rfl) rfl #[.agg #[.int .i64 a0_0, .slice A0_1 l0_1.length c0_1, .slice A0_2 l0_2.length c0_2], .int .i64 x26_2, .int .i64 (rd x6_2 x7_1)] (by rfl) rfl rfl (by (try simp only [List.map_toArray, List.map_cons, List.map_nil]); first | done | rfl | (simp only [List.length_drop, List.length_take]; rfl)) ?_
         with_reducible refine (impl_Table_pair.calls k2 a0_0 _ _ l0_1 _ _ l0_2 x26_2 (rd x6_2 x7_1) t208 _ ?side1 ?side2 ?side3 ?side4 A25.out).mono ?_
         (case side1 => exact cd (Kd.C_below HR0_1.out HB.out))
         (case side2 => exact HC0_1.out)
         (case side3 => exact cd (Kd.C_below HR0_2.out HB.out))
         (case side4 => exact HC0_2.out)
         rintro e w39 ⟨rfl, hb⟩
         have HS3_ := (hb.cell (World.block_lt_of_cell? _ _ (hHeld.2.2.2.1))).trans (hHeld.2.2.2.1)
         have HS4_ := (hb.cell (World.block_lt_of_cell? _ _ (hHeld.2.2.2.2))).trans (hHeld.2.2.2.2)
         refine ⟨_, rfl, ?_⟩
         replace HO_5 := ak (Kd.R_below (rdl HO_5) hb)
         replace HO_6 := ak (Kd.R_below (rdl HO_6) hb)
         replace BK195 := ak (blk_below (blkd BK195) hb)
         replace HB := ak (below_step (belowg1 HB GE195) hb)
         (try clear hb); (try clear hb2); (try clear hk); (try clear hi)
         refine hK.out _ _ ⟨bq BK195 0, bq BK195 1, bq BK195 2, HS3_, HS4_⟩ (fun hHeld => ?_)
         clear hK K
         refine norm_ (a' := ?_) ?_ ?_
         rotate_left
         ·show Act.put _ (some 41) _ = _
          simp only [Act.put, List.setIfInBounds_toArray, List.set_cons_zero, List.set_cons_succ, i64_w, i32_w]
          rfl
         refine pureA 13 (some 42) 15 16383 HT_ ?_
         refine pureA 14 (some 43) 15 32767 HT_ ?_
         refine done_ (done_of HT_.out (by kernel_rfl)) ?_
         try go_wp2
         (try simp only [← hl5_2])
         go_roundg k2
         case measure => have := HK1.out; have := HK2.out; omega
         case rel => exact ⟨(x5_2), (x6_2), (wrap64 (x26_2 + 1)), er, H', ⟨by have := HK1.out; have := HK2.out; omega⟩, ⟨by (try simp only [hl5_1]); (try simp only [hl5_2]); (with_reducible repeat (first | apply Kd.R_alloc | apply Kd.R_drewN | apply Kd.R_drew)); exact HO_5.out⟩, ⟨by (try simp only [hl5_1]); (try simp only [hl5_2]); (with_reducible repeat (first | apply Kd.R_alloc | apply Kd.R_drewN | apply Kd.R_drew)); exact HO_6.out⟩, ⟨by (try simp only [hl5_1]); (try simp only [hl5_2]); (with_reducible repeat (first | refine blk_drewN ?_ _ | refine blk_drew ?_ | refine blk_alloc ?_ _)); exact BK195.out⟩, ⟨belowg1 HB GE195⟩⟩
       ·rw [if_neg c22] at H
        have c22b0 : decide ((rd x5_2 x26_2) < 0) = false := decide_eq_false c22
        clear c22
        have H' := Aside0.mk H
        clear H
        try go_wp2
        replace HO_5 := ak (Kd.R_drew HO_5.out)
        replace HO_6 := ak (Kd.R_drew HO_6.out)
        replace BK195 := ak (blk_drew BK195.out)
        replace HB := ak (below_drew1 HB.out)
        have p206 : 0 ≤ (x26_2 : Int) := da
        have q206 : x26_2 < (x5_2.length : Int) := da
        obtain ⟨ad206, e206, hx206_0⟩ := Kd.at_int (Kd.R_reads' HO_5.out).2.2 x26_2 p206 q206
        obtain rfl : (⟨go6, 0, none⟩ : Addr) = ad206 := (by injection e206)
        (first | simp only [add_plain] at hx206_0 | simp only [add_at] at hx206_0 | simp only [Addr.add, Nat.zero_add] at hx206_0 | skip)
        replace p206 := eq_true p206; replace q206 := eq_true q206
        refine start_ (n := 15) (S := fun w' => w'.cell? ⟨go6, (x26_2).toNat, none⟩ = some (.int .i64 (rd x5_2 x26_2))) (ds := []) (bl 15 0) (by kernel_rfl) rfl rfl (hx206_0) (fun hHeld => ?_); refine with_tabW impl_Table_far.tab10 impl_Table_far.bits10 (fun HT_ HW_ => ?_)
        generalize wr.drew = w40 at HO_5 HO_6 BK195 HB hx206_0 hHeld ⊢
        refine pureA 0 (some 29) 15 1 HT_ ?_
        refine pureA 1 (some 30) 15 3 HT_ ?_
        refine pureA 2 (some 31) 15 7 HT_ ?_
        refine takeA 3 (some 32) 15 15 HT_ HW_ hHeld ?_ (hy := by intro w' s0; go_simp; with_reducible rfl)
        refine pureA 4 (some 33) 15 31 HT_ ?_
        refine pureA 5 (some 34) 15 63 HT_ ?_
        refine pureB 6 (some 35) 15 127 HT_ ?_
        refine pureB 7 (some 36) 15 255 HT_ ?_
        refine pureB 8 (some 37) 15 511 HT_ ?_
        refine pureB 9 (some 38) 15 1023 HT_ ?_
        refine pureB 10 (some 39) 15 2047 HT_ ?_
        refine pureB 11 (some 40) 15 4095 HT_ ?_
        refine pureB 12 (some 41) 15 8191 HT_ ?_
        refine pureB 13 (some 42) 15 16383 HT_ ?_
        refine pureA 14 (some 43) 15 32767 HT_ ?_
        refine done_ (done_of HT_.out (by kernel_rfl)) ?_
        try go_wp2
        (try simp only [← hl5_2])
        go_roundg k2
        case measure => have := HK1.out; have := HK2.out; omega
        case rel => exact ⟨(x5_2), (x6_2), (wrap64 (x26_2 + 1)), er, H', ⟨by have := HK1.out; have := HK2.out; omega⟩, ⟨by (try simp only [hl5_1]); (try simp only [hl5_2]); (with_reducible repeat (first | apply Kd.R_alloc | apply Kd.R_drewN | apply Kd.R_drew)); exact HO_5.out⟩, ⟨by (try simp only [hl5_1]); (try simp only [hl5_2]); (with_reducible repeat (first | apply Kd.R_alloc | apply Kd.R_drewN | apply Kd.R_drew)); exact HO_6.out⟩, ⟨by (try simp only [hl5_1]); (try simp only [hl5_2]); (with_reducible repeat (first | refine blk_drewN ?_ _ | refine blk_drew ?_ | refine blk_alloc ?_ _)); exact BK195.out⟩, ⟨belowg1 HB GE195⟩⟩
      ·rw [if_neg c19] at H
       have c19b0 : decide (x26_2 < (x5_1.length : Int)) = false := decide_eq_false c19
       have c19b0s := c19b0
       (try simp only [hl5_1, hl5_2] at c19b0s)
       clear c19
       have H' := Aside0.mk H
       clear H; go_wp2
       (try simp only [← hl5_1, ← hl5_2])
       go_roundg k2
       case measure => have := HK1.out; have := HK2.out; omega
       case rel => exact ⟨(x5_2), (x6_2), (wrap64 (x7_1 + 1)), er, H', ⟨by have := HK1.out; have := HK2.out; omega⟩, ⟨by (try simp only [hl5_1]); (try simp only [hl5_2]); (with_reducible repeat (first | apply Kd.R_alloc | apply Kd.R_drewN | apply Kd.R_drew)); exact HO_5.out⟩, ⟨by (try simp only [hl5_1]); (try simp only [hl5_2]); (with_reducible repeat (first | apply Kd.R_alloc | apply Kd.R_drewN | apply Kd.R_drew)); exact HO_6.out⟩, ⟨by (try simp only [hl5_1]); (try simp only [hl5_2]); (with_reducible repeat (first | refine blk_drewN ?_ _ | refine blk_drew ?_ | refine blk_alloc ?_ _)); exact BK195.out⟩, ⟨belowg1 HB GE195⟩⟩
   ·rw [if_neg c17] at H
    have c17b0 : decide (x7_1 < (x6_1.length : Int)) = false := decide_eq_false c17
    have c17b0s := c17b0
    (try simp only [hl5_1] at c17b0s)
    clear c17
    obtain rfl := Option.some.inj H
    obtain ⟨Ao41, co41, eo41⟩ := Kd.R_slice HO_6.out
    subst eo41; go_wp2
    go_ret
    exact ⟨_, er2, by (with_reducible repeat (first | apply Kd.R_alloc | apply Kd.R_drewN | apply Kd.R_drew)); exact Kd.R_mono HO_5.out (fun _ hk => trivial), belowg1 HB GE195⟩

/-! ### impl_GroupsOf: function 38 -/
mutual
def impl_GroupsOf.l0 : Nat → List (List Int) → List Bool → Int → Int → Int → List (List Int) → List Int → Option ((List (List Int)) × Bool)
  | 0, _, _, _, _, _, _, _ => none
  | k + 1, x4, x5, x18, x19, x216000, x216001, x216002 => if x19 < x18 then (if 0 ≤ x19 then (if x19 < (x5.length : Int) then (if rdOf false x5 x19 = true then (impl_GroupsOf.l0 k x4 x5 x18 (wrap64 (x19 + 1)) x216000 x216001 x216002) else ((impl_Table_far.f k x216000 x216001 x216002 x19).bind fun t227 => (impl_GroupsOf.l1 k x4 x5 (([] : List Int)) x18 x19 t227 (t227.length : Int) 0 x216000 x216001 x216002))) else (none)) else (none)) else (some (x4, true))
def impl_GroupsOf.l1 : Nat → List (List Int) → List Bool → List Int → Int → Int → List Int → Int → Int → Int → List (List Int) → List Int → Option ((List (List Int)) × Bool)
  | 0, _, _, _, _, _, _, _, _, _, _, _ => none
  | k + 1, x4, x5, x7, x18, x19, x29, x30, x31, x216000, x216001, x216002 => if x31 < x30 then (if 0 ≤ x31 then (if x31 < (x29.length : Int) then (if (rd x29 x31) ≥ 0 then (if x31 < (x5.length : Int) then (if x7.length < 17592186044416 then (impl_GroupsOf.l1 k x4 (x5.set (x31 : Int).toNat true) (x7 ++ [x31]) x18 x19 x29 x30 (wrap64 (x31 + 1)) x216000 x216001 x216002) else (none)) else (none)) else (impl_GroupsOf.l1 k x4 x5 x7 x18 x19 x29 x30 (wrap64 (x31 + 1)) x216000 x216001 x216002)) else (none)) else (none)) else (if x4.length < 5864062014805 then (impl_GroupsOf.l0 k (x4 ++ [x7]) x5 x18 (wrap64 (x19 + 1)) x216000 x216001 x216002) else (none))
end
def impl_GroupsOf.f (k : Nat) (a0_0 : Int) (l0_1 : List (List Int)) (l0_2 : List Int) : Option ((List (List Int)) × Bool) := (impl_GoodTable.f k a0_0 l0_1 l0_2).bind fun t216 => (if t216 = true then (if 0 ≤ a0_0 then (if (a0_0 : Int).toNat ≤ 281474976710656 then (impl_GroupsOf.l0 k (([] : List (List Int))) (List.replicate (a0_0 : Int).toNat false) a0_0 0 a0_0 l0_1 l0_2) else (none)) else (none)) else (some (([] : List (List Int)), false)))
theorem impl_GroupsOf.mono_l : ∀ k, (∀ y0 y1 y2 y3 y4 y5 y6, LeO (impl_GroupsOf.l0 k y0 y1 y2 y3 y4 y5 y6) (impl_GroupsOf.l0 (k + 1) y0 y1 y2 y3 y4 y5 y6)) ∧ (∀ y0 y1 y2 y3 y4 y5 y6 y7 y8 y9 y10, LeO (impl_GroupsOf.l1 k y0 y1 y2 y3 y4 y5 y6 y7 y8 y9 y10) (impl_GroupsOf.l1 (k + 1) y0 y1 y2 y3 y4 y5 y6 y7 y8 y9 y10))
 | 0 => ⟨fun _ _ _ _ _ _ _ r h => by simp [impl_GroupsOf.l0] at h, fun _ _ _ _ _ _ _ _ _ _ _ r h => by simp [impl_GroupsOf.l1] at h⟩
 | k + 1 => by
  obtain ⟨ih0, ih1⟩ := impl_GroupsOf.mono_l k
  refine ⟨?_, ?_⟩
  ·intro y0 y1 y2 y3 y4 y5 y6
   unfold impl_GroupsOf.l0
   repeat' (first | (with_reducible first | exact ih0 _ _ _ _ _ _ _ | exact ih1 _ _ _ _ _ _ _ _ _ _ _ | exact impl_GoodTable.mono _ _ _ _ | exact impl_Table_far.mono _ _ _ _ _ | exact LeO.refl _ | exact LeO.none _ | refine LeO.ite ?_ ?_ | refine LeO.bind ?_ (fun _ => ?_)) | exact ih0 _ _ _ _ _ _ _ | exact ih1 _ _ _ _ _ _ _ _ _ _ _ | exact impl_GoodTable.mono _ _ _ _ | exact impl_Table_far.mono _ _ _ _ _ | exact LeO.none _ | refine LeO.ite ?_ ?_ | refine LeO.bind ?_ (fun _ => ?_))
  ·intro y0 y1 y2 y3 y4 y5 y6 y7 y8 y9 y10
   unfold impl_GroupsOf.l1
   repeat' (first | (with_reducible first | exact ih0 _ _ _ _ _ _ _ | exact ih1 _ _ _ _ _ _ _ _ _ _ _ | exact impl_GoodTable.mono _ _ _ _ | exact impl_Table_far.mono _ _ _ _ _ | exact LeO.refl _ | exact LeO.none _ | refine LeO.ite ?_ ?_ | refine LeO.bind ?_ (fun _ => ?_)) | exact ih0 _ _ _ _ _ _ _ | exact ih1 _ _ _ _ _ _ _ _ _ _ _ | exact impl_GoodTable.mono _ _ _ _ | exact impl_Table_far.mono _ _ _ _ _ | exact LeO.none _ | refine LeO.ite ?_ ?_ | refine LeO.bind ?_ (fun _ => ?_))
theorem impl_GroupsOf.mono : ∀ a0 a1 a2 k, LeO (impl_GroupsOf.f k a0 a1 a2) (impl_GroupsOf.f (k + 1) a0 a1 a2) := by
 intro a0 a1 a2 k
 obtain ⟨ih0, ih1⟩ := impl_GroupsOf.mono_l k
 unfold impl_GroupsOf.f
 repeat' (first | (with_reducible first | exact ih0 _ _ _ _ _ _ _ | exact ih1 _ _ _ _ _ _ _ _ _ _ _ | exact impl_GoodTable.mono _ _ _ _ | exact impl_Table_far.mono _ _ _ _ _ | exact LeO.refl _ | exact LeO.none _ | refine LeO.ite ?_ ?_ | refine LeO.bind ?_ (fun _ => ?_)) | exact ih0 _ _ _ _ _ _ _ | exact ih1 _ _ _ _ _ _ _ _ _ _ _ | exact impl_GoodTable.mono _ _ _ _ | exact impl_Table_far.mono _ _ _ _ _ | exact LeO.none _ | refine LeO.ite ?_ ?_ | refine LeO.bind ?_ (fun _ => ?_))
set_option maxHeartbeats 8000000 in
set_option maxRecDepth 100000 in
theorem impl_GroupsOf.calls (k : Nat) (a0_0 : Int) (A0_1 : Option Addr) (c0_1 : Nat) (l0_1 : List (List Int)) (A0_2 : Option Addr) (c0_2 : Nat) (l0_2 : List Int) (r1 : List (List Int)) (r2 : Bool) (w : World) (hr0_1 : Kd.C (Kd.slice 3 (Kd.int .i64)) w A0_1 l0_1.length l0_1) (hc0_1 : l0_1.length ≤ c0_1) (hr0_2 : Kd.C (Kd.int .i64) w A0_2 l0_2.length l0_2) (hc0_2 : l0_2.length ≤ c0_2) (h : impl_GroupsOf.f k a0_0 l0_1 l0_2 = some (r1, r2)) :
  Calls Try.prog 38 #[.agg #[.int .i64 a0_0, .slice A0_1 l0_1.length c0_1, .slice A0_2 l0_2.length c0_2]] w fun e w' => ∃ v0_ : Value, e = .returned (.tuple #[v0_, .bool r2]) ∧ Kd.S (Kd.slice 3 (Kd.int .i64)) 22 w' w.heap.size (fun _ => True) v0_ r1 ∧ Below w.heap.size w w' := by
 have hu38 := Try.underlying38
 have HR0_1 := Aside0.mk hr0_1; have HC0_1 := Aside0.mk hc0_1; clear hr0_1 hc0_1; have HR0_2 := Aside0.mk hr0_2; have HC0_2 := Aside0.mk hc0_2; clear hr0_2 hc0_2
 have HB := Aside0.mk (Below.refl w.heap.size w)
 have H : ((impl_GoodTable.f k a0_0 l0_1 l0_2).bind fun t216 => (if t216 = true then (if 0 ≤ a0_0 then (if (a0_0 : Int).toNat ≤ 281474976710656 then (impl_GroupsOf.l0 k (([] : List (List Int))) (List.replicate (a0_0 : Int).toNat false) a0_0 0 a0_0 l0_1 l0_2) else (none)) else (none)) else (some (([] : List (List Int)), false)))) = some (r1, r2) := h
 clear h; replace H := bS H; obtain ⟨t216, A2, H⟩ := H
 replace H : (if t216 = true then (if 0 ≤ a0_0 then (if (a0_0 : Int).toNat ≤ 281474976710656 then (impl_GroupsOf.l0 k (([] : List (List Int))) (List.replicate (a0_0 : Int).toNat false) a0_0 0 a0_0 l0_1 l0_2) else (none)) else (none)) else (some (([] : List (List Int)), false))) = some (r1, r2) := H
 by_cases c3 : t216 = true
 ·subst c3
  have H1 : (if 0 ≤ a0_0 then (if (a0_0 : Int).toNat ≤ 281474976710656 then (impl_GroupsOf.l0 k (([] : List (List Int))) (List.replicate (a0_0 : Int).toNat false) a0_0 0 a0_0 l0_1 l0_2) else (none)) else (none)) = some (r1, r2) := by rw [if_pos rfl] at H; exact H
  clear H
  have H := H1
  clear H1
  obtain ⟨y217, hy_⟩ : ∃ y_ : List (List Int), y_ = (([] : List (List Int))) := ⟨_, rfl⟩
  replace H : (if 0 ≤ a0_0 then (if (a0_0 : Int).toNat ≤ 281474976710656 then (impl_GroupsOf.l0 k y217 (List.replicate (a0_0 : Int).toNat false) a0_0 0 a0_0 l0_1 l0_2) else (none)) else (none)) = some (r1, r2) := yH
  have Ny217 := ak hy_; clear hy_; replace H := ifS H; obtain ⟨c4, H⟩ := H; have c4b0 := eq_true c4
  have c4b1 : decide (0 ≤ a0_0) = true := decide_eq_true c4
  clear c4; replace H := ifS H; obtain ⟨c5, H⟩ := H; have c5b0 := eq_true c5
  have c5b1 : decide ((a0_0 : Int).toNat ≤ 281474976710656) = true := decide_eq_true c5
  clear c5
  obtain ⟨y220, hy_⟩ : ∃ y_ : List Bool, y_ = (List.replicate (a0_0 : Int).toNat false) := ⟨_, rfl⟩
  replace H : (impl_GroupsOf.l0 k y217 y220 a0_0 0 a0_0 l0_1 l0_2) = some (r1, r2) := yH
  have Ny220 := ak hy_; clear hy_
  have H' := Aside0.mk H
  clear H
  go_enter Try.func38, Try.ntmps38
  try go_wp2_with (first | ((with_reducible refine gate_dst (N := 1) rfl ?_); refine boxev 1 #[.int .i64 a0_0, .slice A0_1 l0_1.length c0_1, .slice A0_2 l0_2.length c0_2] 38 ?_; intro gb215 hg w6 hbox hb; have BK215 := ak (hbox); have GW215 := ak (hgl hg (belowd HB)); have GE215 := ak (hgl hg (belowd HB)); replace HB := ak (below_step (belowd HB) hb); clear hb hbox hg; obtain ⟨hcz7_0, hcz7_1, hcz7_2, hfz7_0, hfz7_1, hfz7_2⟩ := box3 BK215) | ((with_reducible refine gate_callee (f := 59) rfl ?_); refine goesLa (some 11) rfl Try.func59 #[.agg #[.int .i64 a0_0, .slice A0_1 l0_1.length c0_1, .slice A0_2 l0_2.length c0_2]] rfl ?_; (with_reducible refine (impl_GoodTable.calls k a0_0 _ _ l0_1 _ _ l0_2 true _ ?side1 ?side2 ?side3 ?side4 A2.out).mono ?_); (case side1 => exact cd (Kd.C_below HR0_1.out HB.out)); (case side2 => exact HC0_1.out); (case side3 => exact cd (Kd.C_below HR0_2.out HB.out)); (case side4 => exact HC0_2.out); rintro e w8 ⟨rfl, hb⟩; refine ⟨_, rfl, ?_⟩; replace BK215 := ak (blk_below (blkd BK215) hb); replace HB := ak (below_step (belowg1 HB GE215) hb); (try clear hb)))
  replace BK215 := ak (blk_drew BK215.out)
  replace HB := ak (below_drew1 HB.out)
  refine start_ (n := 6) (S := fun w' => w'.cell? ⟨gb215, 0, none⟩ = some (.int .i64 a0_0) ∧ w'.cell? ⟨gb215, 1, none⟩ = some (.slice A0_1 l0_1.length c0_1) ∧ w'.cell? ⟨gb215, 2, none⟩ = some (.slice A0_2 l0_2.length c0_2)) (ds := []) (bl 6 0) (by kernel_rfl) rfl rfl ⟨bq BK215 0, bq BK215 1, bq BK215 2⟩ (fun hHeld => ?_)
  generalize w8.drew = w9 at BK215 HB hHeld ⊢
  refine pure_ (i := 1) (N := some 14) (v := ?_) (a' := ?_) (bl 6 2) rfl rfl (by kernel_rfl) (fun _ _ _ h => h) (Or.inl ⟨by rfl, ?_⟩) ?_ ?_
  rotate_left
  ·intro w'
   go_simp
   with_reducible rfl
  rotate_left
  ·simp only [Act.put, List.setIfInBounds_toArray, List.set_cons_zero, List.set_cons_succ, i64_w, i32_w]
   rfl
  refine take_ (i := 2) (N := some 15) (v := ?_) (a' := ?_) (bl 6 6) rfl rfl (by kernel_rfl) (fun _ _ _ h => h) (Or.inl ⟨by rfl, ?_⟩) hHeld ?_ ?_
  rotate_left
  ·rintro w' ⟨s0, s1, s2⟩
   go_simp
   with_reducible rfl
  rotate_left
  ·simp only [Act.put, List.setIfInBounds_toArray, List.set_cons_zero, List.set_cons_succ, i64_w, i32_w]
   rfl
  refine join_ (σ := Value × Value) 1 (bl 6 31) (fun s_ => [(13, s_.1), (16, s_.2), (4, s_.1)]) (fun s_ w' => (w'.cell? ⟨gb215, 0, none⟩ = some (.int .i64 a0_0) ∧ w'.cell? ⟨gb215, 1, none⟩ = some (.slice A0_1 l0_1.length c0_1) ∧ w'.cell? ⟨gb215, 2, none⟩ = some (.slice A0_2 l0_2.length c0_2)) ∧ (Kd.S (Kd.slice 3 (Kd.int .i64)) 22 w' w.heap.size (fun _ => True) s_.1 y217) ∧ (Kd.R Kd.bool 4 w' w.heap.size (fun _ => True) s_.2 y220) ∧ (w'.heap[gb215]? = some (.cells #[.int .i64 a0_0, .slice A0_1 l0_1.length c0_1, .slice A0_2 l0_2.length c0_2] 38 (0, 0))) ∧ (Below w.heap.size w w')) ?_ ?_
  rotate_left
  ·intro hCont
   refine two_ (i := 0) (j := 3) (Ni := some 13) (Nj := some 16) (bl 6 7) (bl 6 14) rfl rfl rfl rfl (by kernel_rfl) (by decide) (by decide) (fun K hK => ?_) (fun K hK => ?_)
   ·skip
    refine Kd.S_lit_step (Kd.slice 3 (Kd.int .i64)) _ 22 ?hg (N := 13) ?hd (xs := ([] : List (List Int))) (inner := []) (ok := fun _ => True) (okp := fun _ => True) ?hr ?hp (fun _ hk => hk) trivial (Below.refl _ _) (Nat.le_refl _) (by simp) ?_; (case hd => rfl); (case hg => rfl); (case hr => first | (go_simp; done) | (go_simp; rfl)); (case hp => exact (Reps.none _ _))
    intro v218 w10 ho11 hb hg_ hnew_
    clear hg_ hnew_
    (first | rw [← Ny217.out] at ho11 | (simp only [Int.reduceToNat] at ho11; rw [← Ny217.out] at ho11))
    have HO219 := ak (Kd.S_lower ho11 (below_size (belowg1 HB GE215)))
    replace BK215 := ak (blk_below (blkd BK215) hb)
    replace HB := ak (below_step (belowg1 HB GE215) hb)
    clear hb ho11
    refine hK.out _ _ ⟨bq BK215 0, bq BK215 1, bq BK215 2⟩ (fun hHeld => ?_)
    clear hK K
    refine norm_ (a' := ?_) ?_ ?_
    rotate_left
    ·show Act.put _ (some 13) _ = _
     simp only [Act.put, List.setIfInBounds_toArray, List.set_cons_zero, List.set_cons_succ, i64_w, i32_w]
     rfl
    refine pure_ (i := 4) (N := some 4) (v := ?_) (a' := ?_) (bl 6 23) rfl rfl (by kernel_rfl) (fun _ _ _ h => h) (Or.inl ⟨by rfl, ?_⟩) ?_ ?_
    rotate_left
    ·intro w'
     go_simp
     with_reducible rfl
    rotate_left
    ·simp only [Act.put, List.setIfInBounds_toArray, List.set_cons_zero, List.set_cons_succ, i64_w, i32_w]
     rfl
    refine one_ (i := 3) (N := some 16) (bl 6 31) rfl rfl (by kernel_rfl) (by decide) (fun K hK => ?_)
    refine Kd.R_make_step Kd.bool _ 4 (by rfl) (N := 16) rfl 115 _ _ rfl a0_0 rfl rfl Try.underlying115 (.bool false) 1 info4 rfl (by decide) (by omega) false (ok := fun _ => True) (okp := fun _ => True) rfl (fun _ hk => hk) trivial (da) (Nat.le_trans (Nat.mul_le_mul_right _ (da : a0_0.toNat ≤ 281474976710656)) (by omega)) (Below.refl _ _) (Nat.le_refl _) ?_
    intro v221 w12 ho13 hb hg_ hnew_
    clear hg_ hnew_
    (first | rw [← Ny220.out] at ho13 | (simp only [Int.reduceToNat] at ho13; rw [← Ny220.out] at ho13))
    replace HO219 := ak (Kd.S_below (sd HO219) hb)
    have HO222 := ak (Kd.R_lower ho13 (below_size (belowg1 HB GE215)))
    replace BK215 := ak (blk_below (blkd BK215) hb)
    replace HB := ak (below_step (belowg1 HB GE215) hb)
    clear hb ho13
    refine hK.out _ _ ⟨bq BK215 0, bq BK215 1, bq BK215 2⟩ (fun hHeld => ?_)
    clear hK K
    refine norm_ (a' := ?_) ?_ ?_
    rotate_left
    ·show Act.put _ (some 16) _ = _
     simp only [Act.put, List.setIfInBounds_toArray, List.set_cons_zero, List.set_cons_succ, i64_w, i32_w]
     rfl
    exact norm_ (by simp only [putAll, Act.put, List.setIfInBounds_toArray, List.set_cons_zero, List.set_cons_succ]) (hCont (v218, v221) _ ⟨hHeld, (sd HO219), (rdl HO222), (blkd BK215), (belowg1 HB GE215)⟩)
   ·skip
    refine Kd.R_make_step Kd.bool _ 4 (by rfl) (N := 16) rfl 115 _ _ rfl a0_0 rfl rfl Try.underlying115 (.bool false) 1 info4 rfl (by decide) (by omega) false (ok := fun _ => True) (okp := fun _ => True) rfl (fun _ hk => hk) trivial (da) (Nat.le_trans (Nat.mul_le_mul_right _ (da : a0_0.toNat ≤ 281474976710656)) (by omega)) (Below.refl _ _) (Nat.le_refl _) ?_
    intro v221 w10 ho11 hb hg_ hnew_
    clear hg_ hnew_
    (first | rw [← Ny220.out] at ho11 | (simp only [Int.reduceToNat] at ho11; rw [← Ny220.out] at ho11))
    have HO222 := ak (Kd.R_lower ho11 (below_size (belowg1 HB GE215)))
    replace BK215 := ak (blk_below (blkd BK215) hb)
    replace HB := ak (below_step (belowg1 HB GE215) hb)
    clear hb ho11
    refine hK.out _ _ ⟨bq BK215 0, bq BK215 1, bq BK215 2⟩ (fun hHeld => ?_)
    clear hK K
    refine norm_ (a' := ?_) ?_ ?_
    rotate_left
    ·show Act.put _ (some 16) _ = _
     simp only [Act.put, List.setIfInBounds_toArray, List.set_cons_zero, List.set_cons_succ, i64_w, i32_w]
     rfl
    refine one_ (i := 0) (N := some 13) (bl 6 15) rfl rfl (by kernel_rfl) (by decide) (fun K hK => ?_)
    refine Kd.S_lit_step (Kd.slice 3 (Kd.int .i64)) _ 22 ?hg (N := 13) ?hd (xs := ([] : List (List Int))) (inner := []) (ok := fun _ => True) (okp := fun _ => True) ?hr ?hp (fun _ hk => hk) trivial (Below.refl _ _) (Nat.le_refl _) (by simp) ?_; (case hd => rfl); (case hg => rfl); (case hr => first | (go_simp; done) | (go_simp; rfl)); (case hp => exact (Reps.none _ _))
    intro v218 w12 ho13 hb hg_ hnew_
    clear hg_ hnew_
    (first | rw [← Ny217.out] at ho13 | (simp only [Int.reduceToNat] at ho13; rw [← Ny217.out] at ho13))
    replace HO222 := ak (Kd.R_below (rdl HO222) hb)
    have HO219 := ak (Kd.S_lower ho13 (below_size (belowg1 HB GE215)))
    replace BK215 := ak (blk_below (blkd BK215) hb)
    replace HB := ak (below_step (belowg1 HB GE215) hb)
    clear hb ho13
    refine hK.out _ _ ⟨bq BK215 0, bq BK215 1, bq BK215 2⟩ (fun hHeld => ?_)
    clear hK K
    refine norm_ (a' := ?_) ?_ ?_
    rotate_left
    ·show Act.put _ (some 13) _ = _
     simp only [Act.put, List.setIfInBounds_toArray, List.set_cons_zero, List.set_cons_succ, i64_w, i32_w]
     rfl
    refine pure_ (i := 4) (N := some 4) (v := ?_) (a' := ?_) (bl 6 31) rfl rfl (by kernel_rfl) (fun _ _ _ h => h) (Or.inl ⟨by rfl, ?_⟩) ?_ ?_
    rotate_left
    ·intro w'
     go_simp
     with_reducible rfl
    rotate_left
    ·simp only [Act.put, List.setIfInBounds_toArray, List.set_cons_zero, List.set_cons_succ, i64_w, i32_w]
     rfl
    exact norm_ (by simp only [putAll, Act.put, List.setIfInBounds_toArray, List.set_cons_zero, List.set_cons_succ]) (hCont (v218, v221) _ ⟨hHeld, (sd HO219), (rdl HO222), (blkd BK215), (belowg1 HB GE215)⟩)
  rintro ⟨v218, v221⟩ w14 ⟨hS_, h0_, h1_, h2_, h3_⟩
  have n0_ : Aside0 (Kd.S (Kd.slice 3 (Kd.int .i64)) 22 w14 w.heap.size (fun _ => True) v218 y217) := ⟨h0_⟩
  have n1_ : Aside0 (Kd.R Kd.bool 4 w14 w.heap.size (fun _ => True) v221 y220) := ⟨h1_⟩
  have n2_ : Aside0 (w14.heap[gb215]? = some (.cells #[.int .i64 a0_0, .slice A0_1 l0_1.length c0_1, .slice A0_2 l0_2.length c0_2] 38 (0, 0))) := ⟨h2_⟩
  have n3_ : Aside0 (Below w.heap.size w w14) := ⟨h3_⟩
  clear BK215; clear HB; clear h0_ h1_ h2_ h3_
  have HO219 := n0_
  have HO222 := n1_
  have BK215 := n2_
  have HB := n3_
  clear n0_ n1_ n2_ n3_
  have hHeld : w14.cell? ⟨gb215, 0, none⟩ = some (.int .i64 a0_0) ∧ w14.cell? ⟨gb215, 1, none⟩ = some (.slice A0_1 l0_1.length c0_1) ∧ w14.cell? ⟨gb215, 2, none⟩ = some (.slice A0_2 l0_2.length c0_2) := hS_
  refine norm_ (a' := ?_) ?_ ?_
  rotate_left
  ·simp only [putAll, Act.put, List.setIfInBounds_toArray, List.set_cons_zero, List.set_cons_succ]
   rfl
  refine pure_ (i := 5) (N := some 5) (v := ?_) (a' := ?_) (bl 6 63) rfl rfl (by kernel_rfl) (fun _ _ _ h => h) (Or.inl ⟨by rfl, ?_⟩) ?_ ?_
  rotate_left
  ·intro w'
   go_simp
   with_reducible rfl
  rotate_left
  ·simp only [Act.put, List.setIfInBounds_toArray, List.set_cons_zero, List.set_cons_succ, i64_w, i32_w]
   rfl
  refine done_ (by kernel_rfl) ?_
  obtain ⟨hcz15_0, hcz15_1, hcz15_2, hfz15_0, hfz15_1, hfz15_2⟩ := box3 BK215
  try go_wp2
  go_loopg [4, 19] k (fun kq v4 v19 w' => ∃ (x4_1 : List (List Int)) (x5_1 : List Bool) (x19_1 : Int), v19 = .int .i64 x19_1 ∧ Aside0 (impl_GroupsOf.l0 kq x4_1 x5_1 a0_0 x19_1 a0_0 l0_1 l0_2 = some (r1, r2)) ∧ Aside0 (kq ≤ k) ∧ Aside0 (Kd.S (Kd.slice 3 (Kd.int .i64)) 22 w' w.heap.size (fun _ => True) v4 x4_1) ∧ Aside0 (Kd.R Kd.bool 4 w' w.heap.size (fun _ => True) v221 x5_1) ∧ Aside0 (w'.heap[gb215]? = some (.cells #[.int .i64 a0_0, (.slice A0_1 l0_1.length c0_1), (.slice A0_2 l0_2.length c0_2)] 38 (0, 0))) ∧ Aside0 (Below w.heap.size w w'))
  case atStart => exact ⟨(y217), (y220), (0), er, H', ⟨Nat.le_refl _⟩, ⟨sd HO219⟩, ⟨rdl HO222⟩, ⟨blkd BK215⟩, ⟨belowg1 HB GE215⟩⟩
  case round =>
   clear H'
   (try clear c3); (try clear c4b0); (try clear c4b1); (try clear c5b0); (try clear c5b1); (try clear hcz15_0); (try clear hcz15_1); (try clear hcz15_2); (try clear hcz7_0); (try clear hcz7_1); (try clear hcz7_2); (try clear hfz15_0); (try clear hfz15_1); (try clear hfz15_2); (try clear hfz7_0); (try clear hfz7_1); (try clear hfz7_2)
   obtain ⟨x4_1, x5_1, x19_1, rfl, HA, HK1, HO_4, HO_5, BK215, HB⟩ := hrel
   cases gk with
   | zero => exact absurd HA.out (by simp [impl_GroupsOf.l0])
   | succ k1 =>
    have H := HA.out; clear HA
    simp only [impl_GroupsOf.l0] at H
    by_cases c16 : x19_1 < a0_0
    ·rw [if_pos c16] at H
     have c16b0 : decide (x19_1 < a0_0) = true := decide_eq_true c16
     clear c16; replace H := ifS H; obtain ⟨c17, H⟩ := H; have c17b0 := decide_eq_true c17; clear c17; replace H := ifS H; obtain ⟨c18, H⟩ := H; have c18b0 := decide_eq_true c18; clear c18
     obtain ⟨bq19, hbq19⟩ : ∃ b_ : Bool, b_ = (rdOf false x5_1 x19_1) := ⟨_, rfl⟩
     replace H : (if bq19 = true then (impl_GroupsOf.l0 k1 x4_1 x5_1 a0_0 (wrap64 (x19_1 + 1)) a0_0 l0_1 l0_2) else ((impl_Table_far.f k1 a0_0 l0_1 l0_2 x19_1).bind fun t227 => (impl_GroupsOf.l1 k1 x4_1 x5_1 (([] : List Int)) a0_0 x19_1 t227 (t227.length : Int) 0 a0_0 l0_1 l0_2))) = some (r1, r2) := by rw [← hbq19] at H; exact H
     have Nbq19 := Aside0.mk hbq19; clear hbq19
     by_cases c20 : bq19 = true
     ·subst c20
      have H1 : (impl_GroupsOf.l0 k1 x4_1 x5_1 a0_0 (wrap64 (x19_1 + 1)) a0_0 l0_1 l0_2) = some (r1, r2) := by rw [if_pos rfl] at H; exact H
      clear H
      have H := H1
      clear H1
      have H' := Aside0.mk H
      clear H
      obtain ⟨Ao21, co21, eo21⟩ := Kd.R_slice HO_5.out
      subst eo21
      have p223 : 0 ≤ (x19_1 : Int) := da
      have q223 : x19_1 < (x5_1.length : Int) := da
      obtain ⟨ad223, e223, hx223_0⟩ := Kd.at_bool (Kd.R_reads' HO_5.out).2.2 x19_1 p223 q223
      (try rw [← Nbq19.out] at hx223_0)
      cases e223
      replace p223 := eq_true p223; replace q223 := eq_true q223; go_wp2
      go_roundg k1
      case measure => have := HK1.out; omega
      case rel => exact ⟨(x4_1), (x5_1), (wrap64 (x19_1 + 1)), er, H', ⟨by have := HK1.out; omega⟩, ⟨sd HO_4⟩, ⟨rdl HO_5⟩, ⟨blkd BK215⟩, ⟨belowg1 HB GE215⟩⟩
     ·replace c20 := Bool.eq_false_iff.mpr c20
      subst c20
      have H1 : ((impl_Table_far.f k1 a0_0 l0_1 l0_2 x19_1).bind fun t227 => (impl_GroupsOf.l1 k1 x4_1 x5_1 (([] : List Int)) a0_0 x19_1 t227 (t227.length : Int) 0 a0_0 l0_1 l0_2)) = some (r1, r2) := by rw [if_neg (show ¬ (false = true) by decide)] at H; exact H
      clear H
      have H := H1
      clear H1
      obtain ⟨y224, hy_⟩ : ∃ y_ : List Int, y_ = (([] : List Int)) := ⟨_, rfl⟩
      replace H : ((impl_Table_far.f k1 a0_0 l0_1 l0_2 x19_1).bind fun t227 => (impl_GroupsOf.l1 k1 x4_1 x5_1 y224 a0_0 x19_1 t227 (t227.length : Int) 0 a0_0 l0_1 l0_2)) = some (r1, r2) := yH
      have Ny224 := ak hy_; clear hy_; replace H := bS H; obtain ⟨t227, A22, H⟩ := H
      replace H : (impl_GroupsOf.l1 k1 x4_1 x5_1 y224 a0_0 x19_1 t227 (t227.length : Int) 0 a0_0 l0_1 l0_2) = some (r1, r2) := H
      have H' := Aside0.mk H
      clear H
      obtain ⟨Ao23, co23, eo23⟩ := Kd.R_slice HO_5.out
      subst eo23
      have p223 : 0 ≤ (x19_1 : Int) := da
      have q223 : x19_1 < (x5_1.length : Int) := da
      obtain ⟨ad223, e223, hx223_0⟩ := Kd.at_bool (Kd.R_reads' HO_5.out).2.2 x19_1 p223 q223
      (try rw [← Nbq19.out] at hx223_0)
      cases e223
      replace p223 := eq_true p223; replace q223 := eq_true q223
      go_wp2_with (first | ((with_reducible refine gate_dst (N := 26) rfl ?_); refine Kd.R_lit (Kd.int .i64) _ 3 ?hg (N := 26) ?hd (xs := ([] : List Int)) (inner := []) (ok := fun _ => True) (okp := fun _ => True) ?hr ?hp (fun _ hk => hk) trivial (Below.refl _ _) (Nat.le_refl _) (by simp) ?_; (case hd => rfl); (case hg => rfl); (case hr => first | (go_simp; done) | (go_simp; rfl)); (case hp => exact (Reps.none _ _)); intro v225 w24 ho25 hb hg_ hnew_; clear hg_ hnew_; (first | rw [← Ny224.out] at ho25 | (simp only [Int.reduceToNat] at ho25; rw [← Ny224.out] at ho25)); replace HO_4 := ak (Kd.S_elder' (sd HO_4) (Kd.R_base ho25) hb); replace HO_5 := ak (Kd.R_below (rdl HO_5) hb); have HO226 := ak (Kd.R_lower ho25 (below_size (belowg1 HB GE215))); replace BK215 := ak (blk_below (blkd BK215) hb); replace HB := ak (below_step (belowg1 HB GE215) hb); clear hb ho25; obtain ⟨hcz26_0, hcz26_1, hcz26_2, hfz26_0, hfz26_1, hfz26_2⟩ := box3 BK215) | ((with_reducible refine gate_callee (f := 107) rfl ?_); refine goesLa (some 29) rfl Try.func107 #[.agg #[.int .i64 a0_0, .slice A0_1 l0_1.length c0_1, .slice A0_2 l0_2.length c0_2], .int .i64 x19_1] rfl ?_; (with_reducible refine (impl_Table_far.calls k1 a0_0 _ _ l0_1 _ _ l0_2 x19_1 t227 _ ?side1 ?side2 ?side3 ?side4 A22.out).mono ?_); (case side1 => exact cd (Kd.C_below HR0_1.out HB.out)); (case side2 => exact HC0_1.out); (case side3 => exact cd (Kd.C_below HR0_2.out HB.out)); (case side4 => exact HC0_2.out); rintro e w27 ⟨v228, rfl, ho0, hb⟩; refine ⟨_, rfl, ?_⟩; replace HO_4 := ak (Kd.S_elder' (sd HO_4) (Kd.R_base ho0) hb); replace HO_5 := ak (Kd.R_below (rdl HO_5) hb); have HO229 := ak (Kd.R_lower (Kd.R_new' ho0 (Kd.R_lt (rdl HO226))) (below_size (belowg1 HB GE215))); replace HO226 := ak (Kd.R_elder' (rdl HO226) (Kd.R_base ho0) hb); replace BK215 := ak (blk_below (blkd BK215) hb); replace HB := ak (below_step (belowg1 HB GE215) hb); (try clear hb); (try clear ho0); obtain ⟨Ao28, co28, eo28⟩ := Kd.R_slice HO229.out; subst eo28))
      go_loopg [7, 31] k1 (fun kq v7 v31 w' => ∃ (x5_2 : List Bool) (x7_2 : List Int) (x31_2 : Int), v31 = .int .i64 x31_2 ∧ Aside0 (impl_GroupsOf.l1 kq x4_1 x5_2 x7_2 a0_0 x19_1 t227 (t227.length : Int) x31_2 a0_0 l0_1 l0_2 = some (r1, r2)) ∧ Aside0 (kq ≤ k1) ∧ Aside0 (Kd.S (Kd.slice 3 (Kd.int .i64)) 22 w' w.heap.size (fun k_ => some k_ ≠ (v7 : Value).ownBlock ∧ some k_ ≠ ((.slice Ao28 t227.length co28) : Value).ownBlock) u4 x4_1) ∧ Aside0 (Kd.R Kd.bool 4 w' w.heap.size (fun _ => True) (.slice (some ad223) x5_1.length co23) x5_2) ∧ Aside0 (Kd.R (Kd.int .i64) 3 w' w.heap.size (fun k_ => some k_ ≠ ((.slice Ao28 t227.length co28) : Value).ownBlock) v7 x7_2) ∧ Aside0 (Kd.R (Kd.int .i64) 3 w' w.heap.size (fun k_ => some k_ ≠ (v7 : Value).ownBlock) (.slice Ao28 t227.length co28) t227) ∧ Aside0 (w'.heap[gb215]? = some (.cells #[.int .i64 a0_0, (.slice A0_1 l0_1.length c0_1), (.slice A0_2 l0_2.length c0_2)] 38 (0, 0))) ∧ Aside0 (Below w.heap.size w w'))
      case atStart => exact ⟨(x5_1), (y224), (0), er, H', ⟨Nat.le_refl _⟩, ⟨by (with_reducible repeat (first | apply Kd.S_alloc | apply Kd.S_drewN | apply Kd.S_drew)); exact Kd.S_mono HO_4.out (fun _ hk => ⟨hk.1.2, hk.2⟩)⟩, ⟨rdl HO_5⟩, ⟨by (with_reducible repeat (first | apply Kd.R_alloc | apply Kd.R_drewN | apply Kd.R_drew)); exact Kd.R_mono HO226.out (fun _ hk => hk.2)⟩, ⟨by (with_reducible repeat (first | apply Kd.R_alloc | apply Kd.R_drewN | apply Kd.R_drew)); exact Kd.R_mono HO229.out (fun _ hk => hk.2)⟩, ⟨blkd BK215⟩, ⟨belowg1 HB GE215⟩⟩
      case round =>
       clear H'
       (try clear c16b0); (try clear c17b0); (try clear c18b0); (try clear c20); (try clear hcz26_0); (try clear hcz26_1); (try clear hcz26_2); (try clear hfz26_0); (try clear hfz26_1); (try clear hfz26_2); (try clear hx223_0); (try clear p223); (try clear q223)
       obtain ⟨x5_2, x7_2, x31_2, rfl, HA, HK2, HO_4, HO_5, HO_7, HO_29, BK215, HB⟩ := hrel
       have hl5_2 := (Kd.R_reads' HO_5.out).1
       rw [hl5_2] at HO_5
       (try simp only [hl5_2])
       (try simp only [hl5_2] at BK215)
       (try simp only [hl5_2] at HO_4)
       (try simp only [hl5_2] at HO_7)
       (try simp only [hl5_2] at HO_29)
       cases gk with
       | zero => exact absurd HA.out (by simp [impl_GroupsOf.l1])
       | succ k2 =>
        have H := HA.out; clear HA
        simp only [impl_GroupsOf.l1] at H
        by_cases c29 : x31_2 < (t227.length : Int)
        ·rw [if_pos c29] at H
         have c29b0 : decide (x31_2 < (t227.length : Int)) = true := decide_eq_true c29
         clear c29; replace H := ifS H; obtain ⟨c30, H⟩ := H; have c30b0 := decide_eq_true c30; clear c30; replace H := ifS H; obtain ⟨c31, H⟩ := H; have c31b0 := decide_eq_true c31; clear c31
         by_cases c32 : (rd t227 x31_2) ≥ 0
         ·rw [if_pos c32] at H
          have c32b0 : decide (0 ≤ (rd t227 x31_2)) = true := decide_eq_true c32
          clear c32; replace H := ifS H; obtain ⟨c33, H⟩ := H; have c33b0 := decide_eq_true c33; clear c33
          obtain ⟨y231, hy_⟩ : ∃ y_ : List Bool, y_ = (x5_2.set (x31_2 : Int).toNat true) := ⟨_, rfl⟩
          replace H : (if x7_2.length < 17592186044416 then (impl_GroupsOf.l1 k2 x4_1 y231 (x7_2 ++ [x31_2]) a0_0 x19_1 t227 (t227.length : Int) (wrap64 (x31_2 + 1)) a0_0 l0_1 l0_2) else (none)) = some (r1, r2) := yH
          have Ny231 := ak hy_; clear hy_; replace H := ifS H; obtain ⟨c35, H⟩ := H; have LMc35 := Aside0.mk c35; clear c35
          obtain ⟨y232, hy_⟩ : ∃ y_ : List Int, y_ = (x7_2 ++ [x31_2]) := ⟨_, rfl⟩
          replace H : (impl_GroupsOf.l1 k2 x4_1 y231 y232 a0_0 x19_1 t227 (t227.length : Int) (wrap64 (x31_2 + 1)) a0_0 l0_1 l0_2) = some (r1, r2) := yH
          have Ny232 := ak hy_; clear hy_
          have H' := Aside0.mk H
          clear H
          have p230 : 0 ≤ (x31_2 : Int) := da
          have q230 : x31_2 < (t227.length : Int) := da
          obtain ⟨ad230, e230, hx230_0⟩ := Kd.at_int (Kd.R_reads' HO_29.out).2.2 x31_2 p230 q230
          cases e230
          replace p230 := eq_true p230; replace q230 := eq_true q230
          have p34 : 0 ≤ (x31_2 : Int) := da
          have q34 : (x31_2 : Int) < ((x5_2.length : Int) : Int) := da
          obtain ⟨go34, co34, eo34, gb34, gl34, cl34, HG34⟩ := Kd.R_form HO_5.out (by omega)
          (first | cases eo34 | (injection eo34 with ea_ en_ ec_; (first | subst ea_ | (injection ea_ with ea_; subst ea_)); subst ec_; clear en_))
          have GB34 := Aside0.mk gb34; have GG34 := Aside0.mk HG34; clear gb34 gl34 HG34
          (first | simp only [add_plain] at hx223_0 | skip)
          obtain ⟨hx34_0, hf34_0⟩ := Kd.R_celln false HO_5.out (x31_2 : Int) p34 q34
          replace p34 := eq_true p34; replace q34 := eq_true q34
          have HP36 := Kd.R_putg HO_5.out (x31_2 : Int) true
          go_wp2_with (first | ((with_reducible refine gate_store (t := 4) (p := 40) rfl ?_); refine store_event (t := 4) (p := 40) (v := ?vo_w37) (w1 := (wr.setCell ⟨go34, (x31_2 : Int).toNat, none⟩ (.bool true))) ?hg ?ho ?hn ?hr ?_; (case ho => rfl); (case hg => rfl); (case hn => rfl); (case hr => first | (go_simp; done) | (go_simp; rfl)); intro w37 hw; have hg : wr.grownBy w37 (some go34) := (by rw [hw]; exact HP36.2); have hp_ : Kd.R Kd.bool 4 w37 w.heap.size (fun _ => True) (.slice (some ⟨go34, 0, none⟩) x5_2.length co23) y231 := (by rw [hw, Ny231.out]; exact HP36.1); clear HP36; replace HO_4 := ak (Kd.S_over' (v := (.slice (some ⟨go34, 0, none⟩) x5_2.length co23)) (sd HO_4) (Kd.R_typed HO_5.out) (by decide) hg); replace HO_7 := ak (Kd.R_over' (v := (.slice (some ⟨go34, 0, none⟩) x5_2.length co23)) (rdl HO_7) (Kd.R_typed HO_5.out) (by decide) hg); replace HO_29 := ak (Kd.R_over' (v := (.slice (some ⟨go34, 0, none⟩) x5_2.length co23)) (rdl HO_29) (Kd.R_typed HO_5.out) (by decide) hg); replace BK215 := ak (blk_grown (blkd BK215) hg (Kd.R_ne HO_5.out BK215.out (by decide))); replace HO_5 := ak (hp_); replace HB := ak ((by rw [hw]; exact below_set (HB.out) GB34.out : Below w.heap.size w w37)); clear hg hw hp_) | ((with_reducible refine gate_builtin (b := .append) (xs := #[.tmp 41, .tmp 43]) rfl ?_); at_builtin; refine Kd.R_append (Kd.int .i64) (w0 := w) w.heap.size rfl (.tmp 41) (.tmp 43) 22 3 (.int .i64 0) 8 rfl Try.underlying22 info3 rfl (by decide) (by omega) u7 x7_2 x31_2 [.int .i64 x31_2] (fun k_ => some k_ ≠ (.slice (some ad230) t227.length co28 : Value).ownBlock) (fun _ => False) rfl rfl ?aP (fun _ hk => hk.elim) ?aF ?aO ?aB ?aS ?aL ?_; (case aP => exact rfl); (case aB => exact (belowg1 HB GE215)); (case aF => exact (fun k_ hk => Kd.fresh' (Kd.R_lt (rdl HO_29)) k_ hk)); (case aO => exact (rdl HO_7)); (case aS => exact (below_size (belowg1 HB GE215))); (case aL => have := LMc35.out; omega); intro v233 w38 ho hb hg hat; rw [← Ny232.out] at ho; replace HO_4 := ak (Kd.S_after (ok := (fun k_ => some k_ ≠ (.slice (some ad230) t227.length co28 : Value).ownBlock)) (by (with_reducible repeat (first | apply Kd.S_alloc | apply Kd.S_drewN | apply Kd.S_drew)); exact Kd.S_mono HO_4.out (fun _ hk => ⟨hk.2, hk.1⟩)) hg hat); replace HO_5 := ak (Kd.R_over' (rdl HO_5) (Kd.R_typed (rdl HO_7)) (by decide) hg); replace HO_29 := ak (Kd.R_after (ok := (fun _ => True)) (by (with_reducible repeat (first | apply Kd.R_alloc | apply Kd.R_drewN | apply Kd.R_drew)); exact Kd.R_mono HO_29.out (fun _ hk => ⟨trivial, hk⟩)) hg hat); replace BK215 := ak (blk_grown (blkd BK215) hg (Kd.R_ne HO_7.out BK215.out (by decide))); replace HB := ak (hb); have HO234 := ak (ho); clear HO_7; clear ho hb hg hat))
          (try simp only [← hl5_2])
          (first | go_roundg k2 | ((try rw [← add_plain go34 (x19_1 : Int).toNat]); go_roundg k2))
          case measure => have := HK1.out; have := HK2.out; omega
          case rel => exact ⟨(y231), (y232), (wrap64 (x31_2 + 1)), er, H', ⟨by have := HK1.out; have := HK2.out; omega⟩, ⟨by (try simp only [hl5_2]); (with_reducible repeat (first | apply Kd.S_alloc | apply Kd.S_drewN | apply Kd.S_drew)); exact Kd.S_mono HO_4.out (fun _ hk => ⟨hk.2, hk.1⟩)⟩, ⟨by (try simp only [hl5_2]); (with_reducible repeat (first | apply Kd.R_alloc | apply Kd.R_drewN | apply Kd.R_drew)); exact HO_5.out⟩, ⟨by (try simp only [hl5_2]); (with_reducible repeat (first | apply Kd.R_alloc | apply Kd.R_drewN | apply Kd.R_drew)); exact HO234.out⟩, ⟨by (try simp only [hl5_2]); (with_reducible repeat (first | apply Kd.R_alloc | apply Kd.R_drewN | apply Kd.R_drew)); exact Kd.R_mono HO_29.out (fun _ hk => hk.2)⟩, ⟨by (try simp only [hl5_2]); (with_reducible repeat (first | refine blk_drewN ?_ _ | refine blk_drew ?_ | refine blk_alloc ?_ _)); exact BK215.out⟩, ⟨belowg1 HB GE215⟩⟩
         ·rw [if_neg c32] at H
          have c32b0 : decide (0 ≤ (rd t227 x31_2)) = false := decide_eq_false c32
          clear c32
          have H' := Aside0.mk H
          clear H
          have p230 : 0 ≤ (x31_2 : Int) := da
          have q230 : x31_2 < (t227.length : Int) := da
          obtain ⟨ad230, e230, hx230_0⟩ := Kd.at_int (Kd.R_reads' HO_29.out).2.2 x31_2 p230 q230
          cases e230
          replace p230 := eq_true p230; replace q230 := eq_true q230; go_wp2
          (try simp only [← hl5_2])
          go_roundg k2
          case measure => have := HK1.out; have := HK2.out; omega
          case rel => exact ⟨(x5_2), (x7_2), (wrap64 (x31_2 + 1)), er, H', ⟨by have := HK1.out; have := HK2.out; omega⟩, ⟨by (try simp only [hl5_2]); (with_reducible repeat (first | apply Kd.S_alloc | apply Kd.S_drewN | apply Kd.S_drew)); exact HO_4.out⟩, ⟨by (try simp only [hl5_2]); (with_reducible repeat (first | apply Kd.R_alloc | apply Kd.R_drewN | apply Kd.R_drew)); exact HO_5.out⟩, ⟨by (try simp only [hl5_2]); (with_reducible repeat (first | apply Kd.R_alloc | apply Kd.R_drewN | apply Kd.R_drew)); exact HO_7.out⟩, ⟨by (try simp only [hl5_2]); (with_reducible repeat (first | apply Kd.R_alloc | apply Kd.R_drewN | apply Kd.R_drew)); exact HO_29.out⟩, ⟨by (try simp only [hl5_2]); (with_reducible repeat (first | refine blk_drewN ?_ _ | refine blk_drew ?_ | refine blk_alloc ?_ _)); exact BK215.out⟩, ⟨belowg1 HB GE215⟩⟩
        ·rw [if_neg c29] at H
         have c29b0 : decide (x31_2 < (t227.length : Int)) = false := decide_eq_false c29
         have c29b0s := c29b0
         (try simp only [hl5_2] at c29b0s)
         clear c29; replace H := ifS H; obtain ⟨c39, H⟩ := H; have LMc39 := Aside0.mk c39; clear c39
         obtain ⟨y235, hy_⟩ : ∃ y_ : List (List Int), y_ = (x4_1 ++ [x7_2]) := ⟨_, rfl⟩
         replace H : (impl_GroupsOf.l0 k2 y235 x5_2 a0_0 (wrap64 (x19_1 + 1)) a0_0 l0_1 l0_2) = some (r1, r2) := yH
         have Ny235 := ak hy_; clear hy_
         have H' := Aside0.mk H
         clear H
         obtain ⟨Ao41, co41, eo41⟩ := Kd.R_slice HO_7.out
         subst eo41
         go_wp2_with (first | ((with_reducible refine gate_builtin (b := .append) (xs := #[.tmp 46, .tmp 48]) rfl ?_); at_builtin; refine Kd.S_append (Kd.slice 3 (Kd.int .i64)) (w0 := w) w.heap.size rfl (.tmp 46) (.tmp 48) 32 22 (.slice none 0 0) 24 rfl Try.underlying32 info22 rfl (by decide) (by omega) u4 x4_1 x7_2 [.slice Ao41 x7_2.length co41] (fun k_ => some k_ ≠ (.slice Ao28 t227.length co28 : Value).ownBlock) (fun k_ => some k_ = (.slice Ao41 x7_2.length co41 : Value).ownBlock) rfl rfl ?aP (fun k_ hk_ => ((Kd.R_mono (ok' := fun k_ => ((fun k_ => some k_ ≠ (.slice Ao28 t227.length co28 : Value).ownBlock)) k_ ∧ some k_ ≠ (u4 : Value).ownBlock) (Kd.R_apart' (HO_7.out) (Kd.S_typed HO_4.out) (by decide)) (fun k_ hk => ⟨hk.1, hk.2⟩))).1 k_ hk_.symm) ?aF ?aO ?aB ?aS ?aL ?_; (case aP => exact Kd.M_row (Kd.R_mono (Kd.R_tight rfl (Kd.R_mono (ok' := fun k_ => ((fun k_ => some k_ ≠ (.slice Ao28 t227.length co28 : Value).ownBlock)) k_ ∧ some k_ ≠ (u4 : Value).ownBlock) (Kd.R_apart' (HO_7.out) (Kd.S_typed HO_4.out) (by decide)) (fun k_ hk => ⟨hk.1, hk.2⟩))) (fun _ h_ => h_))); (case aB => exact (belowg1 HB GE215)); (case aF => exact (fun k_ hk => Kd.fresh' (Kd.R_lt (rdl HO_29)) k_ hk)); (case aO => exact (by (with_reducible repeat (first | apply Kd.S_alloc | apply Kd.S_drewN | apply Kd.S_drew)); exact Kd.S_mono HO_4.out (fun k_ hk => ⟨hk.2, fun e_ => hk.1 e_⟩))); (case aS => exact (below_size (belowg1 HB GE215))); (case aL => have := LMc39.out; omega); intro v236 w40 ho hb hg hat; rw [← Ny235.out] at ho; replace HO_5 := ak (Kd.R_over' (rdl HO_5) (Kd.S_typed (sd HO_4)) (by decide) hg); replace HO_29 := ak (Kd.R_over' (rdl HO_29) (Kd.S_typed (sd HO_4)) (by decide) hg); replace BK215 := ak (blk_grown (blkd BK215) hg (Kd.S_ne HO_4.out BK215.out (by decide))); replace HB := ak (hb); have HO237 := ak (ho); clear HO_4 HO_7; clear ho hb hg hat))
         (try simp only [← hl5_2])
         go_roundg k2
         case measure => have := HK1.out; have := HK2.out; omega
         case rel => exact ⟨(y235), (x5_2), (wrap64 (x19_1 + 1)), er, H', ⟨by have := HK1.out; have := HK2.out; omega⟩, ⟨by (try simp only [hl5_2]); (with_reducible repeat (first | apply Kd.S_alloc | apply Kd.S_drewN | apply Kd.S_drew)); exact Kd.S_mono HO237.out (fun _ hk => trivial)⟩, ⟨by (try simp only [hl5_2]); (with_reducible repeat (first | apply Kd.R_alloc | apply Kd.R_drewN | apply Kd.R_drew)); exact HO_5.out⟩, ⟨by (try simp only [hl5_2]); (with_reducible repeat (first | refine blk_drewN ?_ _ | refine blk_drew ?_ | refine blk_alloc ?_ _)); exact BK215.out⟩, ⟨belowg1 HB GE215⟩⟩
    ·rw [if_neg c16] at H
     have c16b0 : decide (x19_1 < a0_0) = false := decide_eq_false c16
     clear c16
     simp only [Option.some.injEq, Prod.mk.injEq] at H
     obtain ⟨rfl, rfl⟩ := H; go_wp2
     go_ret2
     exact ⟨_, er2, by (with_reducible repeat (first | apply Kd.S_alloc | apply Kd.S_drewN | apply Kd.S_drew)); exact HO_4.out, belowg1 HB GE215⟩
 ·replace c3 := Bool.eq_false_iff.mpr c3
  subst c3
  have H1 : (some (([] : List (List Int)), false)) = some (r1, r2) := by rw [if_neg (show ¬ (false = true) by decide)] at H; exact H
  clear H
  have H := H1
  clear H1
  simp only [Option.some.injEq, Prod.mk.injEq] at H
  obtain ⟨rfl, rfl⟩ := H
  go_enter Try.func38, Try.ntmps38
  go_wp2_with (first | ((with_reducible refine gate_dst (N := 1) rfl ?_); refine boxev 1 #[.int .i64 a0_0, .slice A0_1 l0_1.length c0_1, .slice A0_2 l0_2.length c0_2] 38 ?_; intro gb215 hg w42 hbox hb; have BK215 := ak (hbox); have GW215 := ak (hgl hg (belowd HB)); have GE215 := ak (hgl hg (belowd HB)); replace HB := ak (below_step (belowd HB) hb); clear hb hbox hg; obtain ⟨hcz43_0, hcz43_1, hcz43_2, hfz43_0, hfz43_1, hfz43_2⟩ := box3 BK215) | ((with_reducible refine gate_callee (f := 59) rfl ?_); refine goesLa (some 11) rfl Try.func59 #[.agg #[.int .i64 a0_0, .slice A0_1 l0_1.length c0_1, .slice A0_2 l0_2.length c0_2]] rfl ?_; (with_reducible refine (impl_GoodTable.calls k a0_0 _ _ l0_1 _ _ l0_2 false _ ?side1 ?side2 ?side3 ?side4 A2.out).mono ?_); (case side1 => exact cd (Kd.C_below HR0_1.out HB.out)); (case side2 => exact HC0_1.out); (case side3 => exact cd (Kd.C_below HR0_2.out HB.out)); (case side4 => exact HC0_2.out); rintro e w44 ⟨rfl, hb⟩; refine ⟨_, rfl, ?_⟩; replace BK215 := ak (blk_below (blkd BK215) hb); replace HB := ak (below_step (belowg1 HB GE215) hb); (try clear hb)))
  go_ret2
  exact ⟨_, er2, by first | exact Kd.S_nil _ _ _ _ _ | exact Kd.N_nil _ _ _ _ _ | exact Kd.V_nil _ _ _ _ _ | exact Kd.Q_nil _ _ _ _ _ | exact Kd.R_nil _ _ _ _ _, belowg1 HB GE215⟩

/-! ### spec_l15Two: function 108 -/
def spec_l15Two.f (k : Nat) (a0_0 : Int) (l0_1 : List (List Int)) (l0_2 : List Int) (a1 : Int) (a2 : Int) : Option (Bool) := (spec_GoodTable.f k a0_0 l0_1 l0_2).bind fun t239 => (if t239 = true then ((spec_l1In.f a1 0 (wrap64 (a0_0 - 1))).bind fun t240 => (if t240 = true then ((spec_l1In.f a2 0 (wrap64 (a0_0 - 1))).bind fun t241 => (some t241)) else (some false))) else (some false))
theorem spec_l15Two.mono : ∀ a0 a1 a2 a3 a4 k, LeO (spec_l15Two.f k a0 a1 a2 a3 a4) (spec_l15Two.f (k + 1) a0 a1 a2 a3 a4) := by
 intro a0 a1 a2 a3 a4 k
 unfold spec_l15Two.f
 repeat' (first | (with_reducible first | exact spec_GoodTable.mono _ _ _ _ | exact LeO.refl _ | exact LeO.none _ | refine LeO.ite ?_ ?_ | refine LeO.bind ?_ (fun _ => ?_)) | exact spec_GoodTable.mono _ _ _ _ | exact LeO.none _ | refine LeO.ite ?_ ?_ | refine LeO.bind ?_ (fun _ => ?_))
set_option maxHeartbeats 8000000 in
set_option maxRecDepth 100000 in
theorem spec_l15Two.calls (k : Nat) (a0_0 : Int) (A0_1 : Option Addr) (c0_1 : Nat) (l0_1 : List (List Int)) (A0_2 : Option Addr) (c0_2 : Nat) (l0_2 : List Int) (a1 : Int) (a2 : Int) (r : Bool) (w : World) (hr0_1 : Kd.C (Kd.slice 3 (Kd.int .i64)) w A0_1 l0_1.length l0_1) (hc0_1 : l0_1.length ≤ c0_1) (hr0_2 : Kd.C (Kd.int .i64) w A0_2 l0_2.length l0_2) (hc0_2 : l0_2.length ≤ c0_2) (h : spec_l15Two.f k a0_0 l0_1 l0_2 a1 a2 = some r) :
  Calls Try.prog 108 #[.agg #[.int .i64 a0_0, .slice A0_1 l0_1.length c0_1, .slice A0_2 l0_2.length c0_2], .int .i64 a1, .int .i64 a2] w fun e w' => e = .returned (.bool r) ∧ Below w.heap.size w w' := by
 have hu38 := Try.underlying38
 have HR0_1 := Aside0.mk hr0_1; have HC0_1 := Aside0.mk hc0_1; clear hr0_1 hc0_1; have HR0_2 := Aside0.mk hr0_2; have HC0_2 := Aside0.mk hc0_2; clear hr0_2 hc0_2
 have HB := Aside0.mk (Below.refl w.heap.size w)
 have H : ((spec_GoodTable.f k a0_0 l0_1 l0_2).bind fun t239 => (if t239 = true then ((spec_l1In.f a1 0 (wrap64 (a0_0 - 1))).bind fun t240 => (if t240 = true then ((spec_l1In.f a2 0 (wrap64 (a0_0 - 1))).bind fun t241 => (some t241)) else (some false))) else (some false))) = some r := h
 clear h; replace H := bS H; obtain ⟨t239, A4, H⟩ := H
 replace H : (if t239 = true then ((spec_l1In.f a1 0 (wrap64 (a0_0 - 1))).bind fun t240 => (if t240 = true then ((spec_l1In.f a2 0 (wrap64 (a0_0 - 1))).bind fun t241 => (some t241)) else (some false))) else (some false)) = some r := H
 by_cases c5 : t239 = true
 ·subst c5
  have H1 : ((spec_l1In.f a1 0 (wrap64 (a0_0 - 1))).bind fun t240 => (if t240 = true then ((spec_l1In.f a2 0 (wrap64 (a0_0 - 1))).bind fun t241 => (some t241)) else (some false))) = some r := by rw [if_pos rfl] at H; exact H
  clear H
  have H := H1
  clear H1; replace H := bS H; obtain ⟨t240, A6, H⟩ := H
  replace H : (if t240 = true then ((spec_l1In.f a2 0 (wrap64 (a0_0 - 1))).bind fun t241 => (some t241)) else (some false)) = some r := H
  by_cases c7 : t240 = true
  ·subst c7
   have H1 : ((spec_l1In.f a2 0 (wrap64 (a0_0 - 1))).bind fun t241 => (some t241)) = some r := by rw [if_pos rfl] at H; exact H
   clear H
   have H := H1
   clear H1; replace H := bS H; obtain ⟨t241, A8, H⟩ := H
   replace H : (some t241) = some r := H
   obtain rfl := Option.some.inj H
   go_enter Try.func108, Try.ntmps108
   go_wp2_with (first | ((with_reducible refine gate_dst (N := 3) rfl ?_); refine boxev 3 #[.int .i64 a0_0, .slice A0_1 l0_1.length c0_1, .slice A0_2 l0_2.length c0_2] 38 ?_; intro gb238 hg w9 hbox hb; have BK238 := ak (hbox); have GW238 := ak (hgl hg (belowd HB)); have GE238 := ak (hgl hg (belowd HB)); replace HB := ak (below_step (belowd HB) hb); clear hb hbox hg; obtain ⟨hcz10_0, hcz10_1, hcz10_2, hfz10_0, hfz10_1, hfz10_2⟩ := box3 BK238) | ((with_reducible refine gate_callee (f := 60) rfl ?_); refine goesLa (some 8) rfl Try.func60 #[.agg #[.int .i64 a0_0, .slice A0_1 l0_1.length c0_1, .slice A0_2 l0_2.length c0_2]] rfl ?_; (with_reducible refine (spec_GoodTable.calls k a0_0 _ _ l0_1 _ _ l0_2 true _ ?side1 ?side2 ?side3 ?side4 A4.out).mono ?_); (case side1 => exact cd (Kd.C_below HR0_1.out HB.out)); (case side2 => exact HC0_1.out); (case side3 => exact cd (Kd.C_below HR0_2.out HB.out)); (case side4 => exact HC0_2.out); rintro e w11 ⟨rfl, hb⟩; refine ⟨_, rfl, ?_⟩; replace BK238 := ak (blk_below (blkd BK238) hb); replace HB := ak (below_step (belowg1 HB GE238) hb); (try clear hb); obtain ⟨hcz12_0, hcz12_1, hcz12_2, hfz12_0, hfz12_1, hfz12_2⟩ := box3 BK238) | (go_at_call 81; (with_reducible refine (spec_l1In.calls a1 0 (wrap64 (a0_0 - 1)) true _ A6.out).mono ?_); rintro e w' ⟨rfl, ⟨nd, rfl⟩⟩) | (go_at_call 81; (with_reducible refine (spec_l1In.calls a2 0 (wrap64 (a0_0 - 1)) t241 _ A8.out).mono ?_); rintro e w' ⟨rfl, ⟨nd, rfl⟩⟩))
   go_ret
   exact ⟨er2, belowg1 HB GE238⟩
  ·replace c7 := Bool.eq_false_iff.mpr c7
   subst c7
   have H1 : (some false) = some r := by rw [if_neg (show ¬ (false = true) by decide)] at H; exact H
   clear H
   have H := H1
   clear H1
   obtain rfl := Option.some.inj H
   go_enter Try.func108, Try.ntmps108
   go_wp2_with (first | ((with_reducible refine gate_dst (N := 3) rfl ?_); refine boxev 3 #[.int .i64 a0_0, .slice A0_1 l0_1.length c0_1, .slice A0_2 l0_2.length c0_2] 38 ?_; intro gb238 hg w13 hbox hb; have BK238 := ak (hbox); have GW238 := ak (hgl hg (belowd HB)); have GE238 := ak (hgl hg (belowd HB)); replace HB := ak (below_step (belowd HB) hb); clear hb hbox hg; obtain ⟨hcz14_0, hcz14_1, hcz14_2, hfz14_0, hfz14_1, hfz14_2⟩ := box3 BK238) | ((with_reducible refine gate_callee (f := 60) rfl ?_); refine goesLa (some 8) rfl Try.func60 #[.agg #[.int .i64 a0_0, .slice A0_1 l0_1.length c0_1, .slice A0_2 l0_2.length c0_2]] rfl ?_; (with_reducible refine (spec_GoodTable.calls k a0_0 _ _ l0_1 _ _ l0_2 true _ ?side1 ?side2 ?side3 ?side4 A4.out).mono ?_); (case side1 => exact cd (Kd.C_below HR0_1.out HB.out)); (case side2 => exact HC0_1.out); (case side3 => exact cd (Kd.C_below HR0_2.out HB.out)); (case side4 => exact HC0_2.out); rintro e w15 ⟨rfl, hb⟩; refine ⟨_, rfl, ?_⟩; replace BK238 := ak (blk_below (blkd BK238) hb); replace HB := ak (below_step (belowg1 HB GE238) hb); (try clear hb); obtain ⟨hcz16_0, hcz16_1, hcz16_2, hfz16_0, hfz16_1, hfz16_2⟩ := box3 BK238) | (go_at_call 81; (with_reducible refine (spec_l1In.calls a1 0 (wrap64 (a0_0 - 1)) false _ A6.out).mono ?_); rintro e w' ⟨rfl, ⟨nd, rfl⟩⟩))
   go_ret
   exact ⟨er2, belowg1 HB GE238⟩
 ·replace c5 := Bool.eq_false_iff.mpr c5
  subst c5
  have H1 : (some false) = some r := by rw [if_neg (show ¬ (false = true) by decide)] at H; exact H
  clear H
  have H := H1
  clear H1
  obtain rfl := Option.some.inj H
  go_enter Try.func108, Try.ntmps108
  go_wp2_with (first | ((with_reducible refine gate_dst (N := 3) rfl ?_); refine boxev 3 #[.int .i64 a0_0, .slice A0_1 l0_1.length c0_1, .slice A0_2 l0_2.length c0_2] 38 ?_; intro gb238 hg w17 hbox hb; have BK238 := ak (hbox); have GW238 := ak (hgl hg (belowd HB)); have GE238 := ak (hgl hg (belowd HB)); replace HB := ak (below_step (belowd HB) hb); clear hb hbox hg; obtain ⟨hcz18_0, hcz18_1, hcz18_2, hfz18_0, hfz18_1, hfz18_2⟩ := box3 BK238) | ((with_reducible refine gate_callee (f := 60) rfl ?_); refine goesLa (some 8) rfl Try.func60 #[.agg #[.int .i64 a0_0, .slice A0_1 l0_1.length c0_1, .slice A0_2 l0_2.length c0_2]] rfl ?_; (with_reducible refine (spec_GoodTable.calls k a0_0 _ _ l0_1 _ _ l0_2 false _ ?side1 ?side2 ?side3 ?side4 A4.out).mono ?_); (case side1 => exact cd (Kd.C_below HR0_1.out HB.out)); (case side2 => exact HC0_1.out); (case side3 => exact cd (Kd.C_below HR0_2.out HB.out)); (case side4 => exact HC0_2.out); rintro e w19 ⟨rfl, hb⟩; refine ⟨_, rfl, ?_⟩; replace BK238 := ak (blk_below (blkd BK238) hb); replace HB := ak (below_step (belowg1 HB GE238) hb); (try clear hb)))
  go_ret
  exact ⟨er2, belowg1 HB GE238⟩

end Go.Proofs.Ytpibdgknmjjolaa.QFnGroups
