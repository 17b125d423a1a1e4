-- printed by this session's own program (wip/tools/pp.py: the kit's print.py with changes); Lean checks it
import Derived.Test.YtpibdgknmjjolaaQFnExactOtherCoinsx0
namespace Go.Proofs.Ytpibdgknmjjolaa.QFnExactOtherCoins
open Go.RowKit Go.Proofs.YtpibdgknmjjolaaW.PrintWords Go.Proofs.YtpibdgknmjjolaaW.PrintLast Go.Proofs.YtpibdgknmjjolaaW.PrintMore
attribute [local go_sem] max2_int min2_int max_two min_two max_three min_three max_four min_four strLss strGtr strLeq strGeq   -- for this text's walks alone
set_option linter.unusedVariables false
set_option linter.unusedSimpArgs false

/-! ### spec_l15Far: function 106 -/
mutual
def spec_l15Far.l0 : Nat → Int → List Int → Int → Int → List (List Int) → List Int → Option (List Int)
  | 0, _, _, _, _, _, _ => none
  | k + 1, x1, x5, x6, x163000, x163001, x163002 => if x6 < x163000 then (if x5.length < 17592186044416 then (spec_l15Far.l0 k x1 (x5 ++ [(-1)]) (wrap64 (x6 + 1)) x163000 x163001 x163002) else (none)) else (if 0 ≤ x1 then (if x1 < (x5.length : Int) then (spec_l15Far.l1 k (x5.set (x1 : Int).toNat 0) 0 x163000 x163001 x163002) else (none)) else (none))
def spec_l15Far.l1 : Nat → List Int → Int → Int → List (List Int) → List Int → Option (List Int)
  | 0, _, _, _, _, _ => none
  | k + 1, x5, x7, x163000, x163001, x163002 => if x7 < x163000 then (spec_l15Far.l2 k x5 x7 x163001 (x163001.length : Int) 0 x163000 x163001 x163002) else (some x5)
def spec_l15Far.l2 : Nat → List Int → Int → List (List Int) → Int → Int → Int → List (List Int) → List Int → Option (List Int)
  | 0, _, _, _, _, _, _, _, _ => none
  | k + 1, x5, x7, x29, x30, x31, x163000, x163001, x163002 => if x31 < x30 then (if 0 ≤ x31 then (if x31 < (x29.length : Int) then (if 0 < ((rd_L1 x29 x31).length : Int) then (if 0 ≤ (rd (rd_L1 x29 x31) 0) then (if (rd (rd_L1 x29 x31) 0) < (x5.length : Int) then (if (rd x5 (rd (rd_L1 x29 x31) 0)) = x7 then (if 1 < ((rd_L1 x29 x31).length : Int) then (if 0 ≤ (rd (rd_L1 x29 x31) 1) then (if (rd (rd_L1 x29 x31) 1) < (x5.length : Int) then (spec_l15Far.j3 k x5 x7 (rd_L1 x29 x31) x29 x30 x31 (decide ((rd x5 (rd (rd_L1 x29 x31) 1)) < 0)) x163000 x163001 x163002) else (none)) else (none)) else (none)) else (spec_l15Far.j3 k x5 x7 (rd_L1 x29 x31) x29 x30 x31 false x163000 x163001 x163002)) else (none)) else (none)) else (none)) else (none)) else (none)) else (spec_l15Far.l1 k x5 (wrap64 (x7 + 1)) x163000 x163001 x163002)
def spec_l15Far.j3 : Nat → List Int → Int → List Int → List (List Int) → Int → Int → Bool → Int → List (List Int) → List Int → Option (List Int)
  | 0, _, _, _, _, _, _, _, _, _, _ => none
  | k + 1, x5, x7, x9, x29, x30, x31, x51, x163000, x163001, x163002 => if x51 = true then (if 1 < (x9.length : Int) then (if 0 ≤ (rd x9 1) then (if (rd x9 1) < (x5.length : Int) then ((some (x5.set ((rd x9 1) : Int).toNat (wrap64 (x7 + 1)) : List Int)).bind fun y173 => (if (rd y173 (rd x9 1)) = x7 then (if 0 < (x9.length : Int) then (if 0 ≤ (rd x9 0) then (if (rd x9 0) < (x5.length : Int) then (if (rd y173 (rd x9 0)) < 0 then (spec_l15Far.l2 k (y173.set ((rd x9 0) : Int).toNat (wrap64 (x7 + 1))) x7 x29 x30 (wrap64 (x31 + 1)) x163000 x163001 x163002) else (spec_l15Far.l2 k y173 x7 x29 x30 (wrap64 (x31 + 1)) x163000 x163001 x163002)) else (none)) else (none)) else (none)) else (spec_l15Far.l2 k y173 x7 x29 x30 (wrap64 (x31 + 1)) x163000 x163001 x163002))) else (none)) else (none)) else (none)) else (if 1 < (x9.length : Int) then (if 0 ≤ (rd x9 1) then (if (rd x9 1) < (x5.length : Int) then (if (rd x5 (rd x9 1)) = x7 then (if 0 < (x9.length : Int) then (if 0 ≤ (rd x9 0) then (if (rd x9 0) < (x5.length : Int) then (if (rd x5 (rd x9 0)) < 0 then (spec_l15Far.l2 k (x5.set ((rd x9 0) : Int).toNat (wrap64 (x7 + 1))) x7 x29 x30 (wrap64 (x31 + 1)) x163000 x163001 x163002) else (spec_l15Far.l2 k x5 x7 x29 x30 (wrap64 (x31 + 1)) x163000 x163001 x163002)) else (none)) else (none)) else (none)) else (spec_l15Far.l2 k x5 x7 x29 x30 (wrap64 (x31 + 1)) x163000 x163001 x163002)) else (none)) else (none)) else (none))
end
def spec_l15Far.f (k : Nat) (a0_0 : Int) (l0_1 : List (List Int)) (l0_2 : List Int) (a1 : Int) : Option (List Int) := spec_l15Far.l0 k a1 ([] : List Int) 0 a0_0 l0_1 l0_2
theorem spec_l15Far.mono_l : ∀ k, (∀ y0 y1 y2 y3 y4 y5, LeO (spec_l15Far.l0 k y0 y1 y2 y3 y4 y5) (spec_l15Far.l0 (k + 1) y0 y1 y2 y3 y4 y5)) ∧ (∀ y0 y1 y2 y3 y4, LeO (spec_l15Far.l1 k y0 y1 y2 y3 y4) (spec_l15Far.l1 (k + 1) y0 y1 y2 y3 y4)) ∧ (∀ y0 y1 y2 y3 y4 y5 y6 y7, LeO (spec_l15Far.l2 k y0 y1 y2 y3 y4 y5 y6 y7) (spec_l15Far.l2 (k + 1) y0 y1 y2 y3 y4 y5 y6 y7)) ∧ (∀ y0 y1 y2 y3 y4 y5 y6 y7 y8 y9, LeO (spec_l15Far.j3 k y0 y1 y2 y3 y4 y5 y6 y7 y8 y9) (spec_l15Far.j3 (k + 1) y0 y1 y2 y3 y4 y5 y6 y7 y8 y9))
 | 0 => ⟨fun _ _ _ _ _ _ r h => by simp [spec_l15Far.l0] at h, fun _ _ _ _ _ r h => by simp [spec_l15Far.l1] at h, fun _ _ _ _ _ _ _ _ r h => by simp [spec_l15Far.l2] at h, fun _ _ _ _ _ _ _ _ _ _ r h => by simp [spec_l15Far.j3] at h⟩
 | k + 1 => by
  obtain ⟨ih0, ih1, ih2, ih3⟩ := spec_l15Far.mono_l k
  refine ⟨?_, ?_, ?_, ?_⟩
  ·intro y0 y1 y2 y3 y4 y5
   unfold spec_l15Far.l0
   repeat' (first | (with_reducible first | exact ih0 _ _ _ _ _ _ | exact ih1 _ _ _ _ _ | exact ih2 _ _ _ _ _ _ _ _ | exact ih3 _ _ _ _ _ _ _ _ _ _ | exact LeO.refl _ | exact LeO.none _ | refine LeO.ite ?_ ?_ | refine LeO.bind ?_ (fun _ => ?_)) | exact ih0 _ _ _ _ _ _ | exact ih1 _ _ _ _ _ | exact ih2 _ _ _ _ _ _ _ _ | exact ih3 _ _ _ _ _ _ _ _ _ _ | exact LeO.none _ | refine LeO.ite ?_ ?_ | refine LeO.bind ?_ (fun _ => ?_))
  ·intro y0 y1 y2 y3 y4
   unfold spec_l15Far.l1
   repeat' (first | (with_reducible first | exact ih0 _ _ _ _ _ _ | exact ih1 _ _ _ _ _ | exact ih2 _ _ _ _ _ _ _ _ | exact ih3 _ _ _ _ _ _ _ _ _ _ | exact LeO.refl _ | exact LeO.none _ | refine LeO.ite ?_ ?_ | refine LeO.bind ?_ (fun _ => ?_)) | exact ih0 _ _ _ _ _ _ | exact ih1 _ _ _ _ _ | exact ih2 _ _ _ _ _ _ _ _ | exact ih3 _ _ _ _ _ _ _ _ _ _ | exact LeO.none _ | refine LeO.ite ?_ ?_ | refine LeO.bind ?_ (fun _ => ?_))
  ·intro y0 y1 y2 y3 y4 y5 y6 y7
   unfold spec_l15Far.l2
   repeat' (first | (with_reducible first | exact ih0 _ _ _ _ _ _ | exact ih1 _ _ _ _ _ | exact ih2 _ _ _ _ _ _ _ _ | exact ih3 _ _ _ _ _ _ _ _ _ _ | exact LeO.refl _ | exact LeO.none _ | refine LeO.ite ?_ ?_ | refine LeO.bind ?_ (fun _ => ?_)) | exact ih0 _ _ _ _ _ _ | exact ih1 _ _ _ _ _ | exact ih2 _ _ _ _ _ _ _ _ | exact ih3 _ _ _ _ _ _ _ _ _ _ | exact LeO.none _ | refine LeO.ite ?_ ?_ | refine LeO.bind ?_ (fun _ => ?_))
  ·intro y0 y1 y2 y3 y4 y5 y6 y7 y8 y9
   unfold spec_l15Far.j3
   repeat' (first | (with_reducible first | exact ih0 _ _ _ _ _ _ | exact ih1 _ _ _ _ _ | exact ih2 _ _ _ _ _ _ _ _ | exact ih3 _ _ _ _ _ _ _ _ _ _ | exact LeO.refl _ | exact LeO.none _ | refine LeO.ite ?_ ?_ | refine LeO.bind ?_ (fun _ => ?_)) | exact ih0 _ _ _ _ _ _ | exact ih1 _ _ _ _ _ | exact ih2 _ _ _ _ _ _ _ _ | exact ih3 _ _ _ _ _ _ _ _ _ _ | exact LeO.none _ | refine LeO.ite ?_ ?_ | refine LeO.bind ?_ (fun _ => ?_))
theorem spec_l15Far.mono : ∀ a0 a1 a2 a3 k, LeO (spec_l15Far.f k a0 a1 a2 a3) (spec_l15Far.f (k + 1) a0 a1 a2 a3) := by
 intro a0 a1 a2 a3 k
 obtain ⟨ih0, ih1, ih2, ih3⟩ := spec_l15Far.mono_l k
 unfold spec_l15Far.f
 repeat' (first | (with_reducible first | exact ih0 _ _ _ _ _ _ | exact ih1 _ _ _ _ _ | exact ih2 _ _ _ _ _ _ _ _ | exact ih3 _ _ _ _ _ _ _ _ _ _ | exact LeO.refl _ | exact LeO.none _ | refine LeO.ite ?_ ?_ | refine LeO.bind ?_ (fun _ => ?_)) | exact ih0 _ _ _ _ _ _ | exact ih1 _ _ _ _ _ | exact ih2 _ _ _ _ _ _ _ _ | exact ih3 _ _ _ _ _ _ _ _ _ _ | exact LeO.none _ | refine LeO.ite ?_ ?_ | refine LeO.bind ?_ (fun _ => ?_))
set_option maxHeartbeats 8000000 in
set_option maxRecDepth 100000 in
theorem spec_l15Far.calls (k : Nat) (a0_0 : Int) (A0_1 : Option Addr) (c0_1 : Nat) (l0_1 : List (List Int)) (A0_2 : Option Addr) (c0_2 : Nat) (l0_2 : List Int) (a1 : Int) (r : List Int) (w : World) (hr0_1 : Kd.C (Kd.slice 3 (Kd.int .i64)) w A0_1 l0_1.length l0_1) (hc0_1 : l0_1.length ≤ c0_1) (hr0_2 : Kd.C (Kd.int .i64) w A0_2 l0_2.length l0_2) (hc0_2 : l0_2.length ≤ c0_2) (h : spec_l15Far.f k a0_0 l0_1 l0_2 a1 = some r) :
  Calls Try.prog 106 #[.agg #[.int .i64 a0_0, .slice A0_1 l0_1.length c0_1, .slice A0_2 l0_2.length c0_2], .int .i64 a1] w fun e w' => ∃ v0_ : Value, e = .returned (v0_) ∧ Kd.R (Kd.int .i64) 3 w' w.heap.size (fun _ => True) v0_ r ∧ Below w.heap.size w w' := by
 have hu38 := Try.underlying38
 have HR0_1 := Aside0.mk hr0_1; have HC0_1 := Aside0.mk hc0_1; clear hr0_1 hc0_1; have HR0_2 := Aside0.mk hr0_2; have HC0_2 := Aside0.mk hc0_2; clear hr0_2 hc0_2
 have HB := Aside0.mk (Below.refl w.heap.size w)
 have H : (spec_l15Far.l0 k a1 ([] : List Int) 0 a0_0 l0_1 l0_2) = some r := h
 clear h
 have H' := Aside0.mk H
 clear H
 go_enter Try.func106, Try.ntmps106
 go_wp2_with (first | ((with_reducible refine gate_dst (N := 2) rfl ?_); refine boxev 2 #[.int .i64 a0_0, .slice A0_1 l0_1.length c0_1, .slice A0_2 l0_2.length c0_2] 38 ?_; intro gb162 hg w3 hbox hb; have BK162 := ak (hbox); have GW162 := ak (hgl hg (belowd HB)); have GE162 := ak (hgl hg (belowd HB)); replace HB := ak (below_step (belowd HB) hb); clear hb hbox hg))
 go_loopg [5, 6] k (fun kq v5 v6 w' => ∃ (x5_1 : List Int) (x6_1 : Int), v6 = .int .i64 x6_1 ∧ Aside0 (spec_l15Far.l0 kq a1 x5_1 x6_1 a0_0 l0_1 l0_2 = some r) ∧ Aside0 (kq ≤ k) ∧ Aside0 (Kd.R (Kd.int .i64) 3 w' w.heap.size (fun _ => True) v5 x5_1) ∧ Aside0 (w'.heap[gb162]? = some (.cells #[.int .i64 a0_0, (.slice A0_1 l0_1.length c0_1), (.slice A0_2 l0_2.length c0_2)] 38 (0, 0))) ∧ Aside0 (Below w.heap.size w w'))
 case atStart => exact ⟨(([] : List Int)), (0), er, H', ⟨Nat.le_refl _⟩, ⟨by first | exact Kd.R_nil _ _ _ _ _ | exact Kd.N_nil _ _ _ _ _ | exact Kd.V_nil _ _ _ _ _ | exact Kd.Q_nil _ _ _ _ _ | exact Kd.S_nil _ _ _ _ _⟩, ⟨blkd BK162⟩, ⟨belowg1 HB GE162⟩⟩
 case round =>
  clear H'
  obtain ⟨x5_1, x6_1, rfl, HA, HK1, HO_5, BK162, HB⟩ := hrel
  cases gk with
  | zero => exact absurd HA.out (by simp [spec_l15Far.l0])
  | succ k1 =>
   have H := HA.out; clear HA
   simp only [spec_l15Far.l0] at H
   by_cases c4 : x6_1 < a0_0
   ·rw [if_pos c4] at H
    have c4b0 : decide (x6_1 < a0_0) = true := decide_eq_true c4
    clear c4; replace H := ifS H; obtain ⟨c5, H⟩ := H; have LMc5 := Aside0.mk c5; clear c5
    obtain ⟨y163, hy_⟩ : ∃ y_ : List Int, y_ = (x5_1 ++ [(-1)]) := ⟨_, rfl⟩
    replace H : (spec_l15Far.l0 k1 a1 y163 (wrap64 (x6_1 + 1)) a0_0 l0_1 l0_2) = some r := yH
    have Ny163 := ak hy_; clear hy_
    have H' := Aside0.mk H
    clear H; obtain ⟨hcz6_0, hcz6_1, hcz6_2, hfz6_0, hfz6_1, hfz6_2⟩ := box3 BK162
    go_wp2_with (first | ((with_reducible refine gate_builtin (b := .append) (xs := #[.tmp 16, .tmp 17]) rfl ?_); at_builtin; refine Kd.R_append (Kd.int .i64) (w0 := w) w.heap.size rfl (.tmp 16) (.tmp 17) 22 3 (.int .i64 0) 8 rfl Try.underlying22 info3 rfl (by decide) (by omega) u5 x5_1 (-1) [.int .i64 (-1)] (fun _ => True) (fun _ => False) rfl rfl ?aP (fun _ hk => hk.elim) ?aF ?aO ?aB ?aS ?aL ?_; (case aP => exact rfl); (case aB => exact (belowg1 HB GE162)); (case aF => exact (fun _ _ => trivial)); (case aO => exact (rdl HO_5)); (case aS => exact (below_size (belowg1 HB GE162))); (case aL => have := LMc5.out; omega); intro v164 w7 ho hb hg hat; rw [← Ny163.out] at ho; replace BK162 := ak (blk_grown (blkd BK162) hg (Kd.R_ne HO_5.out BK162.out (by decide))); replace HB := ak (hb); have HO165 := ak (ho); clear HO_5; clear ho hb hg hat))
    go_roundg k1
    case measure => have := HK1.out; omega
    case rel => exact ⟨(y163), (wrap64 (x6_1 + 1)), er, H', ⟨by have := HK1.out; omega⟩, ⟨rdl HO165⟩, ⟨blkd BK162⟩, ⟨belowg1 HB GE162⟩⟩
   ·rw [if_neg c4] at H
    have c4b0 : decide (x6_1 < a0_0) = false := decide_eq_false c4
    clear c4; replace H := ifS H; obtain ⟨c8, H⟩ := H; have c8b0 := decide_eq_true c8; clear c8; replace H := ifS H; obtain ⟨c9, H⟩ := H; have c9b0 := decide_eq_true c9; clear c9
    obtain ⟨y166, hy_⟩ : ∃ y_ : List Int, y_ = (x5_1.set (a1 : Int).toNat 0) := ⟨_, rfl⟩
    replace H : (spec_l15Far.l1 k1 y166 0 a0_0 l0_1 l0_2) = some r := yH
    have Ny166 := ak hy_; clear hy_
    have H' := Aside0.mk H
    clear H; obtain ⟨hcz11_0, hcz11_1, hcz11_2, hfz11_0, hfz11_1, hfz11_2⟩ := box3 BK162
    have p10 : 0 ≤ (a1 : Int) := da
    have q10 : (a1 : Int) < ((x5_1.length : Int) : Int) := da
    obtain ⟨go10, co10, eo10, gb10, gl10, cl10, HG10⟩ := Kd.R_form HO_5.out (by omega)
    (first | cases eo10 | (injection eo10 with ea_ en_ ec_; (first | subst ea_ | (injection ea_ with ea_; subst ea_)); subst ec_; clear en_))
    have GB10 := Aside0.mk gb10; have GG10 := Aside0.mk HG10; clear gb10 gl10 HG10
    obtain ⟨hx10_0, hf10_0⟩ := Kd.R_celln 0 HO_5.out (a1 : Int) p10 q10
    replace p10 := eq_true p10; replace q10 := eq_true q10
    have HP12 := Kd.R_putg HO_5.out (a1 : Int) 0
    go_wp2_with (first | ((with_reducible refine gate_store (t := 3) (p := 21) rfl ?_); refine store_event (t := 3) (p := 21) (v := ?vo_w13) (w1 := (wr.setCell ⟨go10, (a1 : Int).toNat, none⟩ (.int .i64 0))) ?hg ?ho ?hn ?hr ?_; (case ho => rfl); (case hg => rfl); (case hn => rfl); (case hr => first | (go_simp; done) | (go_simp; rfl)); intro w13 hw; have hg : wr.grownBy w13 (some go10) := (by rw [hw]; exact HP12.2); have hp_ : Kd.R (Kd.int .i64) 3 w13 w.heap.size (fun _ => True) (.slice (some ⟨go10, 0, none⟩) x5_1.length co10) y166 := (by rw [hw, Ny166.out]; exact HP12.1); clear HP12; replace BK162 := ak (blk_grown (blkd BK162) hg (Kd.R_ne HO_5.out BK162.out (by decide))); replace HO_5 := ak (hp_); replace HB := ak ((by rw [hw]; exact below_set (HB.out) GB10.out : Below w.heap.size w w13)); clear hg hw hp_))
    go_loopg [7] k1 (fun kq v7 w' => ∃ (x5_2 : List Int) (x7_2 : Int), v7 = .int .i64 x7_2 ∧ Aside0 (spec_l15Far.l1 kq x5_2 x7_2 a0_0 l0_1 l0_2 = some r) ∧ Aside0 (kq ≤ k1) ∧ Aside0 (Kd.R (Kd.int .i64) 3 w' w.heap.size (fun _ => True) (.slice (some ⟨go10, 0, none⟩) x5_1.length co10) x5_2) ∧ Aside0 (w'.heap[gb162]? = some (.cells #[.int .i64 a0_0, (.slice A0_1 l0_1.length c0_1), (.slice A0_2 l0_2.length c0_2)] 38 (0, 0))) ∧ Aside0 (Below w.heap.size w w'))
    case atStart => exact ⟨(y166), (0), er, H', ⟨Nat.le_refl _⟩, ⟨rdl HO_5⟩, ⟨blkd BK162⟩, ⟨belowg1 HB GE162⟩⟩
    case round =>
     clear H'
     (try clear c4b0); (try clear c8b0); (try clear c9b0); (try clear p10); (try clear q10); (try clear hcz11_0); (try clear hcz11_1); (try clear hcz11_2); (try clear hfz11_0); (try clear hfz11_1); (try clear hfz11_2); (try clear hx10_0)
     obtain ⟨x5_2, x7_2, rfl, HA, HK2, HO_5, BK162, HB⟩ := hrel
     have hl5_2 := (Kd.R_reads' HO_5.out).1
     rw [hl5_2] at HO_5
     (try simp only [hl5_2])
     (try simp only [hl5_2] at BK162)
     cases gk with
     | zero => exact absurd HA.out (by simp [spec_l15Far.l1])
     | succ k2 =>
      have H := HA.out; clear HA
      simp only [spec_l15Far.l1] at H
      by_cases c14 : x7_2 < a0_0
      ·rw [if_pos c14] at H
       have c14b0 : decide (x7_2 < a0_0) = true := decide_eq_true c14
       clear c14
       have H' := Aside0.mk H
       clear H; obtain ⟨hcz15_0, hcz15_1, hcz15_2, hfz15_0, hfz15_1, hfz15_2⟩ := box3 BK162; go_wp2
       go_loopg [31] k2 (fun kq v31 w' => ∃ (x5_3 : List Int) (x31_3 : Int), v31 = .int .i64 x31_3 ∧ Aside0 (spec_l15Far.l2 kq x5_3 x7_2 l0_1 (l0_1.length : Int) x31_3 a0_0 l0_1 l0_2 = some r) ∧ Aside0 (kq ≤ k2) ∧ Aside0 (Kd.R (Kd.int .i64) 3 w' w.heap.size (fun _ => True) (.slice (some ⟨go10, 0, none⟩) x5_2.length co10) x5_3) ∧ Aside0 (w'.heap[gb162]? = some (.cells #[.int .i64 a0_0, (.slice A0_1 l0_1.length c0_1), (.slice A0_2 l0_2.length c0_2)] 38 (0, 0))) ∧ Aside0 (Below w.heap.size w w'))
       case atStart => exact ⟨(x5_2), (0), er, H', ⟨Nat.le_refl _⟩, ⟨by (try simp only [hl5_2]); (with_reducible repeat (first | apply Kd.R_alloc | apply Kd.R_drewN | apply Kd.R_drew)); exact HO_5.out⟩, ⟨by (try simp only [hl5_2]); (with_reducible repeat (first | refine blk_drewN ?_ _ | refine blk_drew ?_ | refine blk_alloc ?_ _)); exact BK162.out⟩, ⟨belowg1 HB GE162⟩⟩
       case round =>
        clear H'
        (try clear c14b0); (try clear hcz15_0); (try clear hcz15_1); (try clear hcz15_2); (try clear hfz15_0); (try clear hfz15_1); (try clear hfz15_2)
        obtain ⟨x5_3, x31_3, rfl, HA, HK3, HO_5, BK162, HB⟩ := hrel
        have hl5_3 := (Kd.R_reads' HO_5.out).1
        rw [hl5_3] at HO_5
        (try simp only [hl5_3])
        (try simp only [hl5_3] at BK162)
        cases gk with
        | zero => exact absurd HA.out (by simp [spec_l15Far.l2])
        | succ k3 =>
         have H := HA.out; clear HA
         simp only [spec_l15Far.l2] at H
         by_cases c16 : x31_3 < (l0_1.length : Int)
         ·rw [if_pos c16] at H
          have c16b0 : decide (x31_3 < (l0_1.length : Int)) = true := decide_eq_true c16
          clear c16; replace H := ifS H; obtain ⟨c17, H⟩ := H; have c17b0 := decide_eq_true c17; clear c17; replace H := ifS H; obtain ⟨c18, H⟩ := H; have c18b0 := decide_eq_true c18; clear c18; have HC19 := Aside0.mk H; clear H
          have p167 : 0 ≤ (x31_3 : Int) := da
          have q167 : x31_3 < (l0_1.length : Int) := da
          obtain ⟨ad167, A167_0, c167_0, e167, hx167_0, hl167_0, hi167_0⟩ := at_L1 HR0_1.out x31_3 p167 q167
          cases e167
          replace hx167_0 := (HB.out.cell (World.block_lt_of_cell? w _ hx167_0)).trans hx167_0
          have HR167_0 := Aside0.mk hi167_0; have HC167_0 := Aside0.mk hl167_0; clear hi167_0 hl167_0; replace p167 := eq_true p167; replace q167 := eq_true q167
          go_upto_region 13 with (fail)
          go_cut [51] (fun v51 wc => ∃ (kq : Nat) (x51_18 : Bool), v51 = .bool x51_18 ∧ Aside0 (spec_l15Far.j3 kq x5_3 x7_2 (rd_L1 l0_1 x31_3) l0_1 (l0_1.length : Int) x31_3 x51_18 a0_0 l0_1 l0_2 = some r) ∧ Aside0 (kq ≤ k3) ∧ Aside0 (Kd.R (Kd.int .i64) 3 wc w.heap.size (fun _ => True) (.slice (some ⟨go10, 0, none⟩) x5_3.length co10) x5_3) ∧ Aside0 (wc.heap[gb162]? = some (.cells #[.int .i64 a0_0, (.slice (some ad167) l0_1.length c0_1), (.slice A0_2 l0_2.length c0_2)] 38 (0, 0))) ∧ Aside0 (Below w.heap.size w wc))
          case first =>
           have H := HC19.out; clear HC19; replace H := ifS H; obtain ⟨c20, H⟩ := H; have c20b0 := decide_eq_true c20
           have c20b1 : decide (0 < (rd_L1 l0_1 x31_3).length) = true := decide_eq_true (by omega)
           clear c20
           (first | rw [c20b0] | (simp only [i64_w, i32_w]; rw [c20b0]) | skip)
           replace H := ifS H; obtain ⟨c21, H⟩ := H; have c21b0 := decide_eq_true c21; clear c21; replace H := ifS H; obtain ⟨c22, H⟩ := H; have c22b0 := decide_eq_true c22; clear c22
           by_cases c23 : (rd x5_3 (rd (rd_L1 l0_1 x31_3) 0)) = x7_2
           ·rw [if_pos c23] at H
            have c23b0 : ((rd x5_3 (rd (rd_L1 l0_1 x31_3) 0)) == x7_2) = true := beq_iff_eq.mpr c23
            have c23b1 : ((rd x5_3 (rd (rd_L1 l0_1 x31_3) 0)) != x7_2) = false := bne_eq_false_iff_eq.mpr c23
            clear c23; replace H := ifS H; obtain ⟨c24, H⟩ := H; have c24b0 := decide_eq_true c24
            have c24b1 : decide (1 < (rd_L1 l0_1 x31_3).length) = true := decide_eq_true (by omega)
            clear c24; replace H := ifS H; obtain ⟨c25, H⟩ := H; have c25b0 := decide_eq_true c25; clear c25; replace H := ifS H; obtain ⟨c26, H⟩ := H; have c26b0 := decide_eq_true c26; clear c26
            have H' := Aside0.mk H
            clear H
            have p168 : 0 ≤ (0 : Int) := (by omega)
            have q168 : 0 < ((rd_L1 l0_1 x31_3).length : Int) := da
            obtain ⟨ad168, e168, hx168_0⟩ := Kd.at_int HR167_0.out 0 p168 q168
            cases e168
            have qi168 : (0 < (rd_L1 l0_1 x31_3).length) = True := eq_true (by omega)
            (try rw [show ((0 : Int)).toNat = 0 from rfl] at hx168_0)
            (try rw [Addr.add_zero'] at hx168_0)
            replace hx168_0 := (HB.out.cell (World.block_lt_of_cell? w _ hx168_0)).trans hx168_0
            replace p168 := eq_true p168; replace q168 := eq_true q168
            have p169 : 0 ≤ ((rd (rd_L1 l0_1 x31_3) 0) : Int) := da
            have q169 : (rd (rd_L1 l0_1 x31_3) 0) < (x5_3.length : Int) := da
            obtain ⟨ad169, e169, hx169_0⟩ := Kd.at_int (Kd.R_reads' HO_5.out).2.2 (rd (rd_L1 l0_1 x31_3) 0) p169 q169
            obtain rfl : (⟨go10, 0, none⟩ : Addr) = ad169 := (by injection e169)
            (first | simp only [add_plain] at hx169_0 | simp only [add_at] at hx169_0 | simp only [Addr.add, Nat.zero_add] at hx169_0 | skip)
            replace p169 := eq_true p169; replace q169 := eq_true q169
            have p170 : 0 ≤ (1 : Int) := (by omega)
            have q170 : 1 < ((rd_L1 l0_1 x31_3).length : Int) := da
            obtain ⟨ad170, e170, hx170_0⟩ := Kd.at_int HR167_0.out 1 p170 q170
            obtain rfl : ad168 = ad170 := (by injection e170)
            (try simp only [show (1 : Int).toNat = 1 from rfl, Nat.reduceMul, Nat.reduceEqDiff, Go.Addr.add, ↓reduceIte] at hx170_0)
            have qi170 : (1 < (rd_L1 l0_1 x31_3).length) = True := eq_true (by omega)
            (try rw [show ((1 : Int)).toNat = 1 from rfl] at hx170_0)
            replace hx170_0 := (HB.out.cell (World.block_lt_of_cell? w _ hx170_0)).trans hx170_0
            replace p170 := eq_true p170; replace q170 := eq_true q170
            have p171 : 0 ≤ ((rd (rd_L1 l0_1 x31_3) 1) : Int) := da
            have q171 : (rd (rd_L1 l0_1 x31_3) 1) < (x5_3.length : Int) := da
            obtain ⟨ad171, e171, hx171_0⟩ := Kd.at_int (Kd.R_reads' HO_5.out).2.2 (rd (rd_L1 l0_1 x31_3) 1) p171 q171
            obtain rfl : (⟨go10, 0, none⟩ : Addr) = ad171 := (by injection e171)
            (first | simp only [add_plain] at hx171_0 | simp only [add_at] at hx171_0 | simp only [Addr.add, Nat.zero_add] at hx171_0 | skip)
            replace p171 := eq_true p171; replace q171 := eq_true q171; go_wp2
            go_meet
            case rel => exact ⟨_, (decide ((rd x5_3 (rd (rd_L1 l0_1 x31_3) 1)) < 0)), er, H', ⟨by have := HK1.out; have := HK2.out; have := HK3.out; first | omega | exact Nat.le_refl _⟩, ⟨by (try simp only [hl5_2]); (try simp only [hl5_3]); (with_reducible repeat (first | apply Kd.R_alloc | apply Kd.R_drewN | apply Kd.R_drew)); exact HO_5.out⟩, ⟨by (try simp only [hl5_2]); (try simp only [hl5_3]); (with_reducible repeat (first | refine blk_drewN ?_ _ | refine blk_drew ?_ | refine blk_alloc ?_ _)); exact BK162.out⟩, ⟨belowg1 HB GE162⟩⟩
           ·rw [if_neg c23] at H
            have c23b0 : ((rd x5_3 (rd (rd_L1 l0_1 x31_3) 0)) == x7_2) = false := beq_eq_false_iff_ne.mpr c23
            have c23b1 : ((rd x5_3 (rd (rd_L1 l0_1 x31_3) 0)) != x7_2) = true := bne_iff_ne.mpr c23
            have H' := Aside0.mk H
            clear H
            have p168 : 0 ≤ (0 : Int) := (by omega)
            have q168 : 0 < ((rd_L1 l0_1 x31_3).length : Int) := da
            obtain ⟨ad168, e168, hx168_0⟩ := Kd.at_int HR167_0.out 0 p168 q168
            cases e168
            have qi168 : (0 < (rd_L1 l0_1 x31_3).length) = True := eq_true (by omega)
            (try rw [show ((0 : Int)).toNat = 0 from rfl] at hx168_0)
            (try rw [Addr.add_zero'] at hx168_0)
            replace hx168_0 := (HB.out.cell (World.block_lt_of_cell? w _ hx168_0)).trans hx168_0
            replace p168 := eq_true p168; replace q168 := eq_true q168
            have p169 : 0 ≤ ((rd (rd_L1 l0_1 x31_3) 0) : Int) := da
            have q169 : (rd (rd_L1 l0_1 x31_3) 0) < (x5_3.length : Int) := da
            obtain ⟨ad169, e169, hx169_0⟩ := Kd.at_int (Kd.R_reads' HO_5.out).2.2 (rd (rd_L1 l0_1 x31_3) 0) p169 q169
            obtain rfl : (⟨go10, 0, none⟩ : Addr) = ad169 := (by injection e169)
            (first | simp only [add_plain] at hx169_0 | simp only [add_at] at hx169_0 | simp only [Addr.add, Nat.zero_add] at hx169_0 | skip)
            replace p169 := eq_true p169; replace q169 := eq_true q169; go_wp2
            go_meet
            case rel => exact ⟨_, (false), er, H', ⟨by have := HK1.out; have := HK2.out; have := HK3.out; first | omega | exact Nat.le_refl _⟩, ⟨by (try simp only [hl5_2]); (try simp only [hl5_3]); (with_reducible repeat (first | apply Kd.R_alloc | apply Kd.R_drewN | apply Kd.R_drew)); exact HO_5.out⟩, ⟨by (try simp only [hl5_2]); (try simp only [hl5_3]); (with_reducible repeat (first | refine blk_drewN ?_ _ | refine blk_drew ?_ | refine blk_alloc ?_ _)); exact BK162.out⟩, ⟨belowg1 HB GE162⟩⟩
          case rest =>
           clear HC19; (try clear c16b0); (try clear c17b0); (try clear c18b0); (try clear hx167_0); (try clear p167); (try clear q167)
           obtain ⟨kq, x51_18, rfl, HA, HJ18, HO_5, BK162, HB⟩ := hcut
           cases kq with
           | zero => exact absurd HA.out (by simp [spec_l15Far.j3])
           | succ kj18 =>
            have H := HA.out; clear HA
            simp only [spec_l15Far.j3] at H
            by_cases c27 : x51_18 = true
            ·subst c27
             have H1 : (if 1 < ((rd_L1 l0_1 x31_3).length : Int) then (if 0 ≤ (rd (rd_L1 l0_1 x31_3) 1) then (if (rd (rd_L1 l0_1 x31_3) 1) < (x5_3.length : Int) then ((some (x5_3.set ((rd (rd_L1 l0_1 x31_3) 1) : Int).toNat (wrap64 (x7_2 + 1)) : List Int)).bind fun y173 => (if (rd y173 (rd (rd_L1 l0_1 x31_3) 1)) = x7_2 then (if 0 < ((rd_L1 l0_1 x31_3).length : Int) then (if 0 ≤ (rd (rd_L1 l0_1 x31_3) 0) then (if (rd (rd_L1 l0_1 x31_3) 0) < (x5_3.length : Int) then (if (rd y173 (rd (rd_L1 l0_1 x31_3) 0)) < 0 then (spec_l15Far.l2 kj18 (y173.set ((rd (rd_L1 l0_1 x31_3) 0) : Int).toNat (wrap64 (x7_2 + 1))) x7_2 l0_1 (l0_1.length : Int) (wrap64 (x31_3 + 1)) a0_0 l0_1 l0_2) else (spec_l15Far.l2 kj18 y173 x7_2 l0_1 (l0_1.length : Int) (wrap64 (x31_3 + 1)) a0_0 l0_1 l0_2)) else (none)) else (none)) else (none)) else (spec_l15Far.l2 kj18 y173 x7_2 l0_1 (l0_1.length : Int) (wrap64 (x31_3 + 1)) a0_0 l0_1 l0_2))) else (none)) else (none)) else (none)) = some r := by rw [if_pos rfl] at H; exact H
             clear H
             have H := H1
             clear H1; replace H := ifS H; obtain ⟨c28, H⟩ := H; have c28b0 := decide_eq_true c28
             have c28b1 : decide (1 < (rd_L1 l0_1 x31_3).length) = true := decide_eq_true (by omega)
             clear c28; replace H := ifS H; obtain ⟨c29, H⟩ := H; have c29b0 := decide_eq_true c29; clear c29; replace H := ifS H; obtain ⟨c30, H⟩ := H; have c30b0 := decide_eq_true c30; clear c30
             obtain ⟨y173, hy_⟩ : ∃ y_ : List Int, y_ = (x5_3.set ((rd (rd_L1 l0_1 x31_3) 1) : Int).toNat (wrap64 (x7_2 + 1))) := ⟨_, rfl⟩
             replace H : (if (rd y173 (rd (rd_L1 l0_1 x31_3) 1)) = x7_2 then (if 0 < ((rd_L1 l0_1 x31_3).length : Int) then (if 0 ≤ (rd (rd_L1 l0_1 x31_3) 0) then (if (rd (rd_L1 l0_1 x31_3) 0) < (x5_3.length : Int) then (if (rd y173 (rd (rd_L1 l0_1 x31_3) 0)) < 0 then (spec_l15Far.l2 kj18 (y173.set ((rd (rd_L1 l0_1 x31_3) 0) : Int).toNat (wrap64 (x7_2 + 1))) x7_2 l0_1 (l0_1.length : Int) (wrap64 (x31_3 + 1)) a0_0 l0_1 l0_2) else (spec_l15Far.l2 kj18 y173 x7_2 l0_1 (l0_1.length : Int) (wrap64 (x31_3 + 1)) a0_0 l0_1 l0_2)) else (none)) else (none)) else (none)) else (spec_l15Far.l2 kj18 y173 x7_2 l0_1 (l0_1.length : Int) (wrap64 (x31_3 + 1)) a0_0 l0_1 l0_2)) = some r := yH
             have Ny173 := ak hy_; clear hy_
             by_cases c32 : (rd y173 (rd (rd_L1 l0_1 x31_3) 1)) = x7_2
             ·rw [if_pos c32] at H
              have c32b0 : ((rd y173 (rd (rd_L1 l0_1 x31_3) 1)) == x7_2) = true := beq_iff_eq.mpr c32
              have c32b1 : ((rd y173 (rd (rd_L1 l0_1 x31_3) 1)) != x7_2) = false := bne_eq_false_iff_eq.mpr c32
              clear c32; replace H := ifS H; obtain ⟨c33, H⟩ := H; have c33b0 := decide_eq_true c33
              have c33b1 : decide (0 < (rd_L1 l0_1 x31_3).length) = true := decide_eq_true (by omega)
              clear c33; replace H := ifS H; obtain ⟨c34, H⟩ := H; have c34b0 := decide_eq_true c34; clear c34; replace H := ifS H; obtain ⟨c35, H⟩ := H; have c35b0 := decide_eq_true c35; clear c35
              by_cases c36 : (rd y173 (rd (rd_L1 l0_1 x31_3) 0)) < 0
              ·rw [if_pos c36] at H
               have c36b0 : decide ((rd y173 (rd (rd_L1 l0_1 x31_3) 0)) < 0) = true := decide_eq_true c36
               clear c36
               obtain ⟨y179, hy_⟩ : ∃ y_ : List Int, y_ = (y173.set ((rd (rd_L1 l0_1 x31_3) 0) : Int).toNat (wrap64 (x7_2 + 1))) := ⟨_, rfl⟩
               replace H : (spec_l15Far.l2 kj18 y179 x7_2 l0_1 (l0_1.length : Int) (wrap64 (x31_3 + 1)) a0_0 l0_1 l0_2) = some r := yH
               have Ny179 := ak hy_; clear hy_
               have H' := Aside0.mk H
               clear H
               have p172 : 0 ≤ (1 : Int) := (by omega)
               have q172 : 1 < ((rd_L1 l0_1 x31_3).length : Int) := da
               obtain ⟨ad172, e172, hx172_0⟩ := Kd.at_int HR167_0.out 1 p172 q172
               cases e172
               (try simp only [show (1 : Int).toNat = 1 from rfl, Nat.reduceMul, Nat.reduceEqDiff, Go.Addr.add, ↓reduceIte] at hx172_0)
               have qi172 : (1 < (rd_L1 l0_1 x31_3).length) = True := eq_true (by omega)
               (try rw [show ((1 : Int)).toNat = 1 from rfl] at hx172_0)
               replace hx172_0 := (HB.out.cell (World.block_lt_of_cell? w _ hx172_0)).trans hx172_0
               replace p172 := eq_true p172; replace q172 := eq_true q172
               have p31 : 0 ≤ ((rd (rd_L1 l0_1 x31_3) 1) : Int) := da
               have q31 : ((rd (rd_L1 l0_1 x31_3) 1) : Int) < ((x5_3.length : Int) : Int) := da
               obtain ⟨hx31_0, hf31_0⟩ := Kd.R_celln 0 HO_5.out ((rd (rd_L1 l0_1 x31_3) 1) : Int) p31 q31
               replace p31 := eq_true p31; replace q31 := eq_true q31
               have HP38 := Kd.R_putg HO_5.out ((rd (rd_L1 l0_1 x31_3) 1) : Int) (wrap64 (x7_2 + 1))
               go_wp2_with (first | ((with_reducible refine gate_store (t := 3) (p := 58) rfl ?_); refine store_event (t := 3) (p := 58) (v := ?vo_w39) (w1 := (wc.setCell ⟨go10, ((rd (rd_L1 l0_1 x31_3) 1) : Int).toNat, none⟩ (.int .i64 (wrap64 (x7_2 + 1))))) ?hg ?ho ?hn ?hr ?_; (case ho => rfl); (case hg => rfl); (case hn => rfl); (case hr => first | (go_simp; done) | (go_simp; rfl)); intro w39 hw; have hg : wc.grownBy w39 (some go10) := (by rw [hw]; exact HP38.2); have hp_ : Kd.R (Kd.int .i64) 3 w39 w.heap.size (fun _ => True) (.slice (some ⟨go10, 0, none⟩) x5_3.length co10) y173 := (by rw [hw, Ny173.out]; exact HP38.1); clear HP38; replace BK162 := ak (blk_grown (blkd BK162) hg (Kd.R_ne HO_5.out BK162.out (by decide))); replace HO_5 := ak (hp_); replace HB := ak ((by rw [hw]; exact below_set (HB.out) GB10.out : Below w.heap.size w w39)); clear hg hw hp_; have p174 : 0 ≤ (1 : Int) := (by omega); have q174 : 1 < ((rd_L1 l0_1 x31_3).length : Int) := da; obtain ⟨ad174, e174, hx174_0⟩ := Kd.at_int HR167_0.out 1 p174 q174; obtain rfl : ad172 = ad174 := (by injection e174); (try simp only [show (1 : Int).toNat = 1 from rfl, Nat.reduceMul, Nat.reduceEqDiff, Go.Addr.add, ↓reduceIte] at hx174_0); have qi174 : (1 < (rd_L1 l0_1 x31_3).length) = True := eq_true (by omega); (try rw [show ((1 : Int)).toNat = 1 from rfl] at hx174_0); replace hx174_0 := (HB.out.cell (World.block_lt_of_cell? w _ hx174_0)).trans hx174_0; replace p174 := eq_true p174; replace q174 := eq_true q174; have p175 : 0 ≤ ((rd (rd_L1 l0_1 x31_3) 1) : Int) := da; have q175 : (rd (rd_L1 l0_1 x31_3) 1) < (y173.length : Int) := (by have h_ : ((rd (rd_L1 l0_1 x31_3) 1) : Int) < ((x5_3.length : Int) : Int) := da; first | (have e_ := (Kd.R_reads' HO_5.out).1; omega) | simpa only [Ny173.out, List.length_set] using h_); have ql175 : (((rd (rd_L1 l0_1 x31_3) 1) : Int) < ((x5_3.length : Int) : Int)) = True := eq_true (da); obtain ⟨ad175, e175, hx175_0⟩ := Kd.at_int (Kd.R_reads' HO_5.out).2.2 (rd (rd_L1 l0_1 x31_3) 1) p175 q175; obtain rfl : (⟨go10, 0, none⟩ : Addr) = ad175 := (by injection e175); (first | simp only [add_plain] at hx175_0 | simp only [add_at] at hx175_0 | simp only [Addr.add, Nat.zero_add] at hx175_0 | skip); replace p175 := eq_true p175; replace q175 := eq_true q175; have p176 : 0 ≤ (0 : Int) := (by omega); have q176 : 0 < ((rd_L1 l0_1 x31_3).length : Int) := da; obtain ⟨ad176, e176, hx176_0⟩ := Kd.at_int HR167_0.out 0 p176 q176; obtain rfl : ad172 = ad176 := (by injection e176); have qi176 : (0 < (rd_L1 l0_1 x31_3).length) = True := eq_true (by omega); (try rw [show ((0 : Int)).toNat = 0 from rfl] at hx176_0); (try rw [Addr.add_zero'] at hx176_0); replace hx176_0 := (HB.out.cell (World.block_lt_of_cell? w _ hx176_0)).trans hx176_0; replace p176 := eq_true p176; replace q176 := eq_true q176; have p177 : 0 ≤ ((rd (rd_L1 l0_1 x31_3) 0) : Int) := da; have q177 : (rd (rd_L1 l0_1 x31_3) 0) < (y173.length : Int) := (by have h_ : ((rd (rd_L1 l0_1 x31_3) 0) : Int) < ((x5_3.length : Int) : Int) := da; first | (have e_ := (Kd.R_reads' HO_5.out).1; omega) | simpa only [Ny173.out, List.length_set] using h_); have ql177 : (((rd (rd_L1 l0_1 x31_3) 0) : Int) < ((x5_3.length : Int) : Int)) = True := eq_true (da); obtain ⟨ad177, e177, hx177_0⟩ := Kd.at_int (Kd.R_reads' HO_5.out).2.2 (rd (rd_L1 l0_1 x31_3) 0) p177 q177; obtain rfl : (⟨go10, 0, none⟩ : Addr) = ad177 := (by injection e177); (first | simp only [add_plain] at hx177_0 | simp only [add_at] at hx177_0 | simp only [Addr.add, Nat.zero_add] at hx177_0 | skip); replace p177 := eq_true p177; replace q177 := eq_true q177; have p178 : 0 ≤ (0 : Int) := (by omega); have q178 : 0 < ((rd_L1 l0_1 x31_3).length : Int) := da; obtain ⟨ad178, e178, hx178_0⟩ := Kd.at_int HR167_0.out 0 p178 q178; obtain rfl : ad172 = ad178 := (by injection e178); have qi178 : (0 < (rd_L1 l0_1 x31_3).length) = True := eq_true (by omega); (try rw [show ((0 : Int)).toNat = 0 from rfl] at hx178_0); (try rw [Addr.add_zero'] at hx178_0); replace hx178_0 := (HB.out.cell (World.block_lt_of_cell? w _ hx178_0)).trans hx178_0; replace p178 := eq_true p178; replace q178 := eq_true q178; have p37 : 0 ≤ ((rd (rd_L1 l0_1 x31_3) 0) : Int) := da; have q37 : ((rd (rd_L1 l0_1 x31_3) 0) : Int) < ((x5_3.length : Int) : Int) := da; obtain ⟨hx37_0, hf37_0⟩ := Kd.R_celln 0 HO_5.out ((rd (rd_L1 l0_1 x31_3) 0) : Int) p37 q37; replace p37 := eq_true p37; replace q37 := eq_true q37; obtain ⟨hy40_, hz40_⟩ := Kd.R_celln 0 HO_5.out ((rd (rd_L1 l0_1 x31_3) 0) : Int) (da) (da); have HP40 := Kd.R_putg HO_5.out ((rd (rd_L1 l0_1 x31_3) 0) : Int) (wrap64 (x7_2 + 1))) | ((with_reducible refine gate_store (t := 3) (p := 82) rfl ?_); refine store_event (t := 3) (p := 82) (v := ?vo_w41) (w1 := (w39.setCell ⟨go10, ((rd (rd_L1 l0_1 x31_3) 0) : Int).toNat, none⟩ (.int .i64 (wrap64 (x7_2 + 1))))) ?hg ?ho ?hn ?hr ?_; (case ho => rfl); (case hg => rfl); (case hn => rfl); (case hr => first | (go_simp; done) | (go_simp; rfl)); intro w41 hw; have hg : w39.grownBy w41 (some go10) := (by rw [hw]; exact HP40.2); have hp_ : Kd.R (Kd.int .i64) 3 w41 w.heap.size (fun _ => True) (.slice (some ⟨go10, 0, none⟩) x5_3.length co10) y179 := (by rw [hw, Ny179.out]; exact HP40.1); clear HP40; replace BK162 := ak (blk_grown (blkd BK162) hg (Kd.R_ne HO_5.out BK162.out (by decide))); replace HO_5 := ak (hp_); replace HB := ak ((by rw [hw]; exact below_set (HB.out) GB10.out : Below w.heap.size w w41)); clear hg hw hp_))
               (try simp only [← hl5_3])
               go_roundg kj18
               case measure => have := HK1.out; have := HK2.out; have := HK3.out; have := HJ18.out; omega
               case rel => exact ⟨(y179), (wrap64 (x31_3 + 1)), er, H', ⟨by have := HK1.out; have := HK2.out; have := HK3.out; have := HJ18.out; omega⟩, ⟨by (try simp only [hl5_2]); (try simp only [hl5_3]); (with_reducible repeat (first | apply Kd.R_alloc | apply Kd.R_drewN | apply Kd.R_drew)); exact HO_5.out⟩, ⟨by (try simp only [hl5_2]); (try simp only [hl5_3]); (with_reducible repeat (first | refine blk_drewN ?_ _ | refine blk_drew ?_ | refine blk_alloc ?_ _)); exact BK162.out⟩, ⟨belowg1 HB GE162⟩⟩
              ·rw [if_neg c36] at H
               have c36b0 : decide ((rd y173 (rd (rd_L1 l0_1 x31_3) 0)) < 0) = false := decide_eq_false c36
               clear c36
               have H' := Aside0.mk H
               clear H
               have p172 : 0 ≤ (1 : Int) := (by omega)
               have q172 : 1 < ((rd_L1 l0_1 x31_3).length : Int) := da
               obtain ⟨ad172, e172, hx172_0⟩ := Kd.at_int HR167_0.out 1 p172 q172
               cases e172
               (try simp only [show (1 : Int).toNat = 1 from rfl, Nat.reduceMul, Nat.reduceEqDiff, Go.Addr.add, ↓reduceIte] at hx172_0)
               have qi172 : (1 < (rd_L1 l0_1 x31_3).length) = True := eq_true (by omega)
               (try rw [show ((1 : Int)).toNat = 1 from rfl] at hx172_0)
               replace hx172_0 := (HB.out.cell (World.block_lt_of_cell? w _ hx172_0)).trans hx172_0
               replace p172 := eq_true p172; replace q172 := eq_true q172
               have p31 : 0 ≤ ((rd (rd_L1 l0_1 x31_3) 1) : Int) := da
               have q31 : ((rd (rd_L1 l0_1 x31_3) 1) : Int) < ((x5_3.length : Int) : Int) := da
               obtain ⟨hx31_0, hf31_0⟩ := Kd.R_celln 0 HO_5.out ((rd (rd_L1 l0_1 x31_3) 1) : Int) p31 q31
               replace p31 := eq_true p31; replace q31 := eq_true q31
               have HP42 := Kd.R_putg HO_5.out ((rd (rd_L1 l0_1 x31_3) 1) : Int) (wrap64 (x7_2 + 1))
               go_wp2_with (first | ((with_reducible refine gate_store (t := 3) (p := 58) rfl ?_); refine store_event (t := 3) (p := 58) (v := ?vo_w43) (w1 := (wc.setCell ⟨go10, ((rd (rd_L1 l0_1 x31_3) 1) : Int).toNat, none⟩ (.int .i64 (wrap64 (x7_2 + 1))))) ?hg ?ho ?hn ?hr ?_; (case ho => rfl); (case hg => rfl); (case hn => rfl); (case hr => first | (go_simp; done) | (go_simp; rfl)); intro w43 hw; have hg : wc.grownBy w43 (some go10) := (by rw [hw]; exact HP42.2); have hp_ : Kd.R (Kd.int .i64) 3 w43 w.heap.size (fun _ => True) (.slice (some ⟨go10, 0, none⟩) x5_3.length co10) y173 := (by rw [hw, Ny173.out]; exact HP42.1); clear HP42; replace BK162 := ak (blk_grown (blkd BK162) hg (Kd.R_ne HO_5.out BK162.out (by decide))); replace HO_5 := ak (hp_); replace HB := ak ((by rw [hw]; exact below_set (HB.out) GB10.out : Below w.heap.size w w43)); clear hg hw hp_; have p174 : 0 ≤ (1 : Int) := (by omega); have q174 : 1 < ((rd_L1 l0_1 x31_3).length : Int) := da; obtain ⟨ad174, e174, hx174_0⟩ := Kd.at_int HR167_0.out 1 p174 q174; obtain rfl : ad172 = ad174 := (by injection e174); (try simp only [show (1 : Int).toNat = 1 from rfl, Nat.reduceMul, Nat.reduceEqDiff, Go.Addr.add, ↓reduceIte] at hx174_0); have qi174 : (1 < (rd_L1 l0_1 x31_3).length) = True := eq_true (by omega); (try rw [show ((1 : Int)).toNat = 1 from rfl] at hx174_0); replace hx174_0 := (HB.out.cell (World.block_lt_of_cell? w _ hx174_0)).trans hx174_0; replace p174 := eq_true p174; replace q174 := eq_true q174; have p175 : 0 ≤ ((rd (rd_L1 l0_1 x31_3) 1) : Int) := da; have q175 : (rd (rd_L1 l0_1 x31_3) 1) < (y173.length : Int) := (by have h_ : ((rd (rd_L1 l0_1 x31_3) 1) : Int) < ((x5_3.length : Int) : Int) := da; first | (have e_ := (Kd.R_reads' HO_5.out).1; omega) | simpa only [Ny173.out, List.length_set] using h_); have ql175 : (((rd (rd_L1 l0_1 x31_3) 1) : Int) < ((x5_3.length : Int) : Int)) = True := eq_true (da); obtain ⟨ad175, e175, hx175_0⟩ := Kd.at_int (Kd.R_reads' HO_5.out).2.2 (rd (rd_L1 l0_1 x31_3) 1) p175 q175; obtain rfl : (⟨go10, 0, none⟩ : Addr) = ad175 := (by injection e175); (first | simp only [add_plain] at hx175_0 | simp only [add_at] at hx175_0 | simp only [Addr.add, Nat.zero_add] at hx175_0 | skip); replace p175 := eq_true p175; replace q175 := eq_true q175; have p176 : 0 ≤ (0 : Int) := (by omega); have q176 : 0 < ((rd_L1 l0_1 x31_3).length : Int) := da; obtain ⟨ad176, e176, hx176_0⟩ := Kd.at_int HR167_0.out 0 p176 q176; obtain rfl : ad172 = ad176 := (by injection e176); have qi176 : (0 < (rd_L1 l0_1 x31_3).length) = True := eq_true (by omega); (try rw [show ((0 : Int)).toNat = 0 from rfl] at hx176_0); (try rw [Addr.add_zero'] at hx176_0); replace hx176_0 := (HB.out.cell (World.block_lt_of_cell? w _ hx176_0)).trans hx176_0; replace p176 := eq_true p176; replace q176 := eq_true q176; have p177 : 0 ≤ ((rd (rd_L1 l0_1 x31_3) 0) : Int) := da; have q177 : (rd (rd_L1 l0_1 x31_3) 0) < (y173.length : Int) := (by have h_ : ((rd (rd_L1 l0_1 x31_3) 0) : Int) < ((x5_3.length : Int) : Int) := da; first | (have e_ := (Kd.R_reads' HO_5.out).1; omega) | simpa only [Ny173.out, List.length_set] using h_); have ql177 : (((rd (rd_L1 l0_1 x31_3) 0) : Int) < ((x5_3.length : Int) : Int)) = True := eq_true (da); obtain ⟨ad177, e177, hx177_0⟩ := Kd.at_int (Kd.R_reads' HO_5.out).2.2 (rd (rd_L1 l0_1 x31_3) 0) p177 q177; obtain rfl : (⟨go10, 0, none⟩ : Addr) = ad177 := (by injection e177); (first | simp only [add_plain] at hx177_0 | simp only [add_at] at hx177_0 | simp only [Addr.add, Nat.zero_add] at hx177_0 | skip); replace p177 := eq_true p177; replace q177 := eq_true q177))
               (try simp only [← hl5_3])
               go_roundg kj18
               case measure => have := HK1.out; have := HK2.out; have := HK3.out; have := HJ18.out; omega
               case rel => exact ⟨(y173), (wrap64 (x31_3 + 1)), er, H', ⟨by have := HK1.out; have := HK2.out; have := HK3.out; have := HJ18.out; omega⟩, ⟨by (try simp only [hl5_2]); (try simp only [hl5_3]); (with_reducible repeat (first | apply Kd.R_alloc | apply Kd.R_drewN | apply Kd.R_drew)); exact HO_5.out⟩, ⟨by (try simp only [hl5_2]); (try simp only [hl5_3]); (with_reducible repeat (first | refine blk_drewN ?_ _ | refine blk_drew ?_ | refine blk_alloc ?_ _)); exact BK162.out⟩, ⟨belowg1 HB GE162⟩⟩
             ·rw [if_neg c32] at H
              have c32b0 : ((rd y173 (rd (rd_L1 l0_1 x31_3) 1)) == x7_2) = false := beq_eq_false_iff_ne.mpr c32
              have c32b1 : ((rd y173 (rd (rd_L1 l0_1 x31_3) 1)) != x7_2) = true := bne_iff_ne.mpr c32
              have H' := Aside0.mk H
              clear H
              have p172 : 0 ≤ (1 : Int) := (by omega)
              have q172 : 1 < ((rd_L1 l0_1 x31_3).length : Int) := da
              obtain ⟨ad172, e172, hx172_0⟩ := Kd.at_int HR167_0.out 1 p172 q172
              cases e172
              (try simp only [show (1 : Int).toNat = 1 from rfl, Nat.reduceMul, Nat.reduceEqDiff, Go.Addr.add, ↓reduceIte] at hx172_0)
              have qi172 : (1 < (rd_L1 l0_1 x31_3).length) = True := eq_true (by omega)
              (try rw [show ((1 : Int)).toNat = 1 from rfl] at hx172_0)
              replace hx172_0 := (HB.out.cell (World.block_lt_of_cell? w _ hx172_0)).trans hx172_0
              replace p172 := eq_true p172; replace q172 := eq_true q172
              have p31 : 0 ≤ ((rd (rd_L1 l0_1 x31_3) 1) : Int) := da
              have q31 : ((rd (rd_L1 l0_1 x31_3) 1) : Int) < ((x5_3.length : Int) : Int) := da
              obtain ⟨hx31_0, hf31_0⟩ := Kd.R_celln 0 HO_5.out ((rd (rd_L1 l0_1 x31_3) 1) : Int) p31 q31
              replace p31 := eq_true p31; replace q31 := eq_true q31
              have HP44 := Kd.R_putg HO_5.out ((rd (rd_L1 l0_1 x31_3) 1) : Int) (wrap64 (x7_2 + 1))
              go_wp2_with (first | ((with_reducible refine gate_store (t := 3) (p := 58) rfl ?_); refine store_event (t := 3) (p := 58) (v := ?vo_w45) (w1 := (wc.setCell ⟨go10, ((rd (rd_L1 l0_1 x31_3) 1) : Int).toNat, none⟩ (.int .i64 (wrap64 (x7_2 + 1))))) ?hg ?ho ?hn ?hr ?_; (case ho => rfl); (case hg => rfl); (case hn => rfl); (case hr => first | (go_simp; done) | (go_simp; rfl)); intro w45 hw; have hg : wc.grownBy w45 (some go10) := (by rw [hw]; exact HP44.2); have hp_ : Kd.R (Kd.int .i64) 3 w45 w.heap.size (fun _ => True) (.slice (some ⟨go10, 0, none⟩) x5_3.length co10) y173 := (by rw [hw, Ny173.out]; exact HP44.1); clear HP44; replace BK162 := ak (blk_grown (blkd BK162) hg (Kd.R_ne HO_5.out BK162.out (by decide))); replace HO_5 := ak (hp_); replace HB := ak ((by rw [hw]; exact below_set (HB.out) GB10.out : Below w.heap.size w w45)); clear hg hw hp_; have p174 : 0 ≤ (1 : Int) := (by omega); have q174 : 1 < ((rd_L1 l0_1 x31_3).length : Int) := da; obtain ⟨ad174, e174, hx174_0⟩ := Kd.at_int HR167_0.out 1 p174 q174; obtain rfl : ad172 = ad174 := (by injection e174); (try simp only [show (1 : Int).toNat = 1 from rfl, Nat.reduceMul, Nat.reduceEqDiff, Go.Addr.add, ↓reduceIte] at hx174_0); have qi174 : (1 < (rd_L1 l0_1 x31_3).length) = True := eq_true (by omega); (try rw [show ((1 : Int)).toNat = 1 from rfl] at hx174_0); replace hx174_0 := (HB.out.cell (World.block_lt_of_cell? w _ hx174_0)).trans hx174_0; replace p174 := eq_true p174; replace q174 := eq_true q174; have p175 : 0 ≤ ((rd (rd_L1 l0_1 x31_3) 1) : Int) := da; have q175 : (rd (rd_L1 l0_1 x31_3) 1) < (y173.length : Int) := (by have h_ : ((rd (rd_L1 l0_1 x31_3) 1) : Int) < ((x5_3.length : Int) : Int) := da; first | (have e_ := (Kd.R_reads' HO_5.out).1; omega) | simpa only [Ny173.out, List.length_set] using h_); have ql175 : (((rd (rd_L1 l0_1 x31_3) 1) : Int) < ((x5_3.length : Int) : Int)) = True := eq_true (da); obtain ⟨ad175, e175, hx175_0⟩ := Kd.at_int (Kd.R_reads' HO_5.out).2.2 (rd (rd_L1 l0_1 x31_3) 1) p175 q175; obtain rfl : (⟨go10, 0, none⟩ : Addr) = ad175 := (by injection e175); (first | simp only [add_plain] at hx175_0 | simp only [add_at] at hx175_0 | simp only [Addr.add, Nat.zero_add] at hx175_0 | skip); replace p175 := eq_true p175; replace q175 := eq_true q175))
              (try simp only [← hl5_3])
              go_roundg kj18
              case measure => have := HK1.out; have := HK2.out; have := HK3.out; have := HJ18.out; omega
              case rel => exact ⟨(y173), (wrap64 (x31_3 + 1)), er, H', ⟨by have := HK1.out; have := HK2.out; have := HK3.out; have := HJ18.out; omega⟩, ⟨by (try simp only [hl5_2]); (try simp only [hl5_3]); (with_reducible repeat (first | apply Kd.R_alloc | apply Kd.R_drewN | apply Kd.R_drew)); exact HO_5.out⟩, ⟨by (try simp only [hl5_2]); (try simp only [hl5_3]); (with_reducible repeat (first | refine blk_drewN ?_ _ | refine blk_drew ?_ | refine blk_alloc ?_ _)); exact BK162.out⟩, ⟨belowg1 HB GE162⟩⟩
            ·replace c27 := Bool.eq_false_iff.mpr c27
             subst c27
             have H1 : (if 1 < ((rd_L1 l0_1 x31_3).length : Int) then (if 0 ≤ (rd (rd_L1 l0_1 x31_3) 1) then (if (rd (rd_L1 l0_1 x31_3) 1) < (x5_3.length : Int) then (if (rd x5_3 (rd (rd_L1 l0_1 x31_3) 1)) = x7_2 then (if 0 < ((rd_L1 l0_1 x31_3).length : Int) then (if 0 ≤ (rd (rd_L1 l0_1 x31_3) 0) then (if (rd (rd_L1 l0_1 x31_3) 0) < (x5_3.length : Int) then (if (rd x5_3 (rd (rd_L1 l0_1 x31_3) 0)) < 0 then (spec_l15Far.l2 kj18 (x5_3.set ((rd (rd_L1 l0_1 x31_3) 0) : Int).toNat (wrap64 (x7_2 + 1))) x7_2 l0_1 (l0_1.length : Int) (wrap64 (x31_3 + 1)) a0_0 l0_1 l0_2) else (spec_l15Far.l2 kj18 x5_3 x7_2 l0_1 (l0_1.length : Int) (wrap64 (x31_3 + 1)) a0_0 l0_1 l0_2)) else (none)) else (none)) else (none)) else (spec_l15Far.l2 kj18 x5_3 x7_2 l0_1 (l0_1.length : Int) (wrap64 (x31_3 + 1)) a0_0 l0_1 l0_2)) else (none)) else (none)) else (none)) = some r := by rw [if_neg (show ¬ (false = true) by decide)] at H; exact H
             clear H
             have H := H1
             clear H1; replace H := ifS H; obtain ⟨c46, H⟩ := H; have c46b0 := decide_eq_true c46
             have c46b1 : decide (1 < (rd_L1 l0_1 x31_3).length) = true := decide_eq_true (by omega)
             clear c46; replace H := ifS H; obtain ⟨c47, H⟩ := H; have c47b0 := decide_eq_true c47; clear c47; replace H := ifS H; obtain ⟨c48, H⟩ := H; have c48b0 := decide_eq_true c48; clear c48
             by_cases c49 : (rd x5_3 (rd (rd_L1 l0_1 x31_3) 1)) = x7_2
             ·rw [if_pos c49] at H
              have c49b0 : ((rd x5_3 (rd (rd_L1 l0_1 x31_3) 1)) == x7_2) = true := beq_iff_eq.mpr c49
              have c49b1 : ((rd x5_3 (rd (rd_L1 l0_1 x31_3) 1)) != x7_2) = false := bne_eq_false_iff_eq.mpr c49
              clear c49; replace H := ifS H; obtain ⟨c50, H⟩ := H; have c50b0 := decide_eq_true c50
              have c50b1 : decide (0 < (rd_L1 l0_1 x31_3).length) = true := decide_eq_true (by omega)
              clear c50; replace H := ifS H; obtain ⟨c51, H⟩ := H; have c51b0 := decide_eq_true c51; clear c51; replace H := ifS H; obtain ⟨c52, H⟩ := H; have c52b0 := decide_eq_true c52; clear c52
              by_cases c53 : (rd x5_3 (rd (rd_L1 l0_1 x31_3) 0)) < 0
              ·rw [if_pos c53] at H
               have c53b0 : decide ((rd x5_3 (rd (rd_L1 l0_1 x31_3) 0)) < 0) = true := decide_eq_true c53
               clear c53
               obtain ⟨y185, hy_⟩ : ∃ y_ : List Int, y_ = (x5_3.set ((rd (rd_L1 l0_1 x31_3) 0) : Int).toNat (wrap64 (x7_2 + 1))) := ⟨_, rfl⟩
               replace H : (spec_l15Far.l2 kj18 y185 x7_2 l0_1 (l0_1.length : Int) (wrap64 (x31_3 + 1)) a0_0 l0_1 l0_2) = some r := yH
               have Ny185 := ak hy_; clear hy_
               have H' := Aside0.mk H
               clear H
               have p180 : 0 ≤ (1 : Int) := (by omega)
               have q180 : 1 < ((rd_L1 l0_1 x31_3).length : Int) := da
               obtain ⟨ad180, e180, hx180_0⟩ := Kd.at_int HR167_0.out 1 p180 q180
               cases e180
               (try simp only [show (1 : Int).toNat = 1 from rfl, Nat.reduceMul, Nat.reduceEqDiff, Go.Addr.add, ↓reduceIte] at hx180_0)
               have qi180 : (1 < (rd_L1 l0_1 x31_3).length) = True := eq_true (by omega)
               (try rw [show ((1 : Int)).toNat = 1 from rfl] at hx180_0)
               replace hx180_0 := (HB.out.cell (World.block_lt_of_cell? w _ hx180_0)).trans hx180_0
               replace p180 := eq_true p180; replace q180 := eq_true q180
               have p181 : 0 ≤ ((rd (rd_L1 l0_1 x31_3) 1) : Int) := da
               have q181 : (rd (rd_L1 l0_1 x31_3) 1) < (x5_3.length : Int) := da
               obtain ⟨ad181, e181, hx181_0⟩ := Kd.at_int (Kd.R_reads' HO_5.out).2.2 (rd (rd_L1 l0_1 x31_3) 1) p181 q181
               obtain rfl : (⟨go10, 0, none⟩ : Addr) = ad181 := (by injection e181)
               (first | simp only [add_plain] at hx181_0 | simp only [add_at] at hx181_0 | simp only [Addr.add, Nat.zero_add] at hx181_0 | skip)
               replace p181 := eq_true p181; replace q181 := eq_true q181
               have p182 : 0 ≤ (0 : Int) := (by omega)
               have q182 : 0 < ((rd_L1 l0_1 x31_3).length : Int) := da
               obtain ⟨ad182, e182, hx182_0⟩ := Kd.at_int HR167_0.out 0 p182 q182
               obtain rfl : ad180 = ad182 := (by injection e182)
               have qi182 : (0 < (rd_L1 l0_1 x31_3).length) = True := eq_true (by omega)
               (try rw [show ((0 : Int)).toNat = 0 from rfl] at hx182_0)
               (try rw [Addr.add_zero'] at hx182_0)
               replace hx182_0 := (HB.out.cell (World.block_lt_of_cell? w _ hx182_0)).trans hx182_0
               replace p182 := eq_true p182; replace q182 := eq_true q182
               have p183 : 0 ≤ ((rd (rd_L1 l0_1 x31_3) 0) : Int) := da
               have q183 : (rd (rd_L1 l0_1 x31_3) 0) < (x5_3.length : Int) := da
               obtain ⟨ad183, e183, hx183_0⟩ := Kd.at_int (Kd.R_reads' HO_5.out).2.2 (rd (rd_L1 l0_1 x31_3) 0) p183 q183
               obtain rfl : (⟨go10, 0, none⟩ : Addr) = ad183 := (by injection e183)
               (first | simp only [add_plain] at hx183_0 | simp only [add_at] at hx183_0 | simp only [Addr.add, Nat.zero_add] at hx183_0 | skip)
               replace p183 := eq_true p183; replace q183 := eq_true q183
               have p184 : 0 ≤ (0 : Int) := (by omega)
               have q184 : 0 < ((rd_L1 l0_1 x31_3).length : Int) := da
               obtain ⟨ad184, e184, hx184_0⟩ := Kd.at_int HR167_0.out 0 p184 q184
               obtain rfl : ad180 = ad184 := (by injection e184)
               have qi184 : (0 < (rd_L1 l0_1 x31_3).length) = True := eq_true (by omega)
               (try rw [show ((0 : Int)).toNat = 0 from rfl] at hx184_0)
               (try rw [Addr.add_zero'] at hx184_0)
               replace hx184_0 := (HB.out.cell (World.block_lt_of_cell? w _ hx184_0)).trans hx184_0
               replace p184 := eq_true p184; replace q184 := eq_true q184
               have p54 : 0 ≤ ((rd (rd_L1 l0_1 x31_3) 0) : Int) := da
               have q54 : ((rd (rd_L1 l0_1 x31_3) 0) : Int) < ((x5_3.length : Int) : Int) := da
               obtain ⟨hx54_0, hf54_0⟩ := Kd.R_celln 0 HO_5.out ((rd (rd_L1 l0_1 x31_3) 0) : Int) p54 q54
               replace p54 := eq_true p54; replace q54 := eq_true q54
               have HP55 := Kd.R_putg HO_5.out ((rd (rd_L1 l0_1 x31_3) 0) : Int) (wrap64 (x7_2 + 1))
               go_wp2_with (first | ((with_reducible refine gate_store (t := 3) (p := 82) rfl ?_); refine store_event (t := 3) (p := 82) (v := ?vo_w56) (w1 := (wc.setCell ⟨go10, ((rd (rd_L1 l0_1 x31_3) 0) : Int).toNat, none⟩ (.int .i64 (wrap64 (x7_2 + 1))))) ?hg ?ho ?hn ?hr ?_; (case ho => rfl); (case hg => rfl); (case hn => rfl); (case hr => first | (go_simp; done) | (go_simp; rfl)); intro w56 hw; have hg : wc.grownBy w56 (some go10) := (by rw [hw]; exact HP55.2); have hp_ : Kd.R (Kd.int .i64) 3 w56 w.heap.size (fun _ => True) (.slice (some ⟨go10, 0, none⟩) x5_3.length co10) y185 := (by rw [hw, Ny185.out]; exact HP55.1); clear HP55; replace BK162 := ak (blk_grown (blkd BK162) hg (Kd.R_ne HO_5.out BK162.out (by decide))); replace HO_5 := ak (hp_); replace HB := ak ((by rw [hw]; exact below_set (HB.out) GB10.out : Below w.heap.size w w56)); clear hg hw hp_))
               (try simp only [← hl5_3])
               go_roundg kj18
               case measure => have := HK1.out; have := HK2.out; have := HK3.out; have := HJ18.out; omega
               case rel => exact ⟨(y185), (wrap64 (x31_3 + 1)), er, H', ⟨by have := HK1.out; have := HK2.out; have := HK3.out; have := HJ18.out; omega⟩, ⟨by (try simp only [hl5_2]); (try simp only [hl5_3]); (with_reducible repeat (first | apply Kd.R_alloc | apply Kd.R_drewN | apply Kd.R_drew)); exact HO_5.out⟩, ⟨by (try simp only [hl5_2]); (try simp only [hl5_3]); (with_reducible repeat (first | refine blk_drewN ?_ _ | refine blk_drew ?_ | refine blk_alloc ?_ _)); exact BK162.out⟩, ⟨belowg1 HB GE162⟩⟩
              ·rw [if_neg c53] at H
               have c53b0 : decide ((rd x5_3 (rd (rd_L1 l0_1 x31_3) 0)) < 0) = false := decide_eq_false c53
               clear c53
               have H' := Aside0.mk H
               clear H
               have p180 : 0 ≤ (1 : Int) := (by omega)
               have q180 : 1 < ((rd_L1 l0_1 x31_3).length : Int) := da
               obtain ⟨ad180, e180, hx180_0⟩ := Kd.at_int HR167_0.out 1 p180 q180
               cases e180
               (try simp only [show (1 : Int).toNat = 1 from rfl, Nat.reduceMul, Nat.reduceEqDiff, Go.Addr.add, ↓reduceIte] at hx180_0)
               have qi180 : (1 < (rd_L1 l0_1 x31_3).length) = True := eq_true (by omega)
               (try rw [show ((1 : Int)).toNat = 1 from rfl] at hx180_0)
               replace hx180_0 := (HB.out.cell (World.block_lt_of_cell? w _ hx180_0)).trans hx180_0
               replace p180 := eq_true p180; replace q180 := eq_true q180
               have p181 : 0 ≤ ((rd (rd_L1 l0_1 x31_3) 1) : Int) := da
               have q181 : (rd (rd_L1 l0_1 x31_3) 1) < (x5_3.length : Int) := da
               obtain ⟨ad181, e181, hx181_0⟩ := Kd.at_int (Kd.R_reads' HO_5.out).2.2 (rd (rd_L1 l0_1 x31_3) 1) p181 q181
               obtain rfl : (⟨go10, 0, none⟩ : Addr) = ad181 := (by injection e181)
               (first | simp only [add_plain] at hx181_0 | simp only [add_at] at hx181_0 | simp only [Addr.add, Nat.zero_add] at hx181_0 | skip)
               replace p181 := eq_true p181; replace q181 := eq_true q181
               have p182 : 0 ≤ (0 : Int) := (by omega)
               have q182 : 0 < ((rd_L1 l0_1 x31_3).length : Int) := da
               obtain ⟨ad182, e182, hx182_0⟩ := Kd.at_int HR167_0.out 0 p182 q182
               obtain rfl : ad180 = ad182 := (by injection e182)
               have qi182 : (0 < (rd_L1 l0_1 x31_3).length) = True := eq_true (by omega)
               (try rw [show ((0 : Int)).toNat = 0 from rfl] at hx182_0)
               (try rw [Addr.add_zero'] at hx182_0)
               replace hx182_0 := (HB.out.cell (World.block_lt_of_cell? w _ hx182_0)).trans hx182_0
               replace p182 := eq_true p182; replace q182 := eq_true q182
               have p183 : 0 ≤ ((rd (rd_L1 l0_1 x31_3) 0) : Int) := da
               have q183 : (rd (rd_L1 l0_1 x31_3) 0) < (x5_3.length : Int) := da
               obtain ⟨ad183, e183, hx183_0⟩ := Kd.at_int (Kd.R_reads' HO_5.out).2.2 (rd (rd_L1 l0_1 x31_3) 0) p183 q183
               obtain rfl : (⟨go10, 0, none⟩ : Addr) = ad183 := (by injection e183)
               (first | simp only [add_plain] at hx183_0 | simp only [add_at] at hx183_0 | simp only [Addr.add, Nat.zero_add] at hx183_0 | skip)
               replace p183 := eq_true p183; replace q183 := eq_true q183; go_wp2
               (try simp only [← hl5_3])
               go_roundg kj18
               case measure => have := HK1.out; have := HK2.out; have := HK3.out; have := HJ18.out; omega
               case rel => exact ⟨(x5_3), (wrap64 (x31_3 + 1)), er, H', ⟨by have := HK1.out; have := HK2.out; have := HK3.out; have := HJ18.out; omega⟩, ⟨by (try simp only [hl5_2]); (try simp only [hl5_3]); (with_reducible repeat (first | apply Kd.R_alloc | apply Kd.R_drewN | apply Kd.R_drew)); exact HO_5.out⟩, ⟨by (try simp only [hl5_2]); (try simp only [hl5_3]); (with_reducible repeat (first | refine blk_drewN ?_ _ | refine blk_drew ?_ | refine blk_alloc ?_ _)); exact BK162.out⟩, ⟨belowg1 HB GE162⟩⟩
             ·rw [if_neg c49] at H
              have c49b0 : ((rd x5_3 (rd (rd_L1 l0_1 x31_3) 1)) == x7_2) = false := beq_eq_false_iff_ne.mpr c49
              have c49b1 : ((rd x5_3 (rd (rd_L1 l0_1 x31_3) 1)) != x7_2) = true := bne_iff_ne.mpr c49
              have H' := Aside0.mk H
              clear H
              have p180 : 0 ≤ (1 : Int) := (by omega)
              have q180 : 1 < ((rd_L1 l0_1 x31_3).length : Int) := da
              obtain ⟨ad180, e180, hx180_0⟩ := Kd.at_int HR167_0.out 1 p180 q180
              cases e180
              (try simp only [show (1 : Int).toNat = 1 from rfl, Nat.reduceMul, Nat.reduceEqDiff, Go.Addr.add, ↓reduceIte] at hx180_0)
              have qi180 : (1 < (rd_L1 l0_1 x31_3).length) = True := eq_true (by omega)
              (try rw [show ((1 : Int)).toNat = 1 from rfl] at hx180_0)
              replace hx180_0 := (HB.out.cell (World.block_lt_of_cell? w _ hx180_0)).trans hx180_0
              replace p180 := eq_true p180; replace q180 := eq_true q180
              have p181 : 0 ≤ ((rd (rd_L1 l0_1 x31_3) 1) : Int) := da
              have q181 : (rd (rd_L1 l0_1 x31_3) 1) < (x5_3.length : Int) := da
              obtain ⟨ad181, e181, hx181_0⟩ := Kd.at_int (Kd.R_reads' HO_5.out).2.2 (rd (rd_L1 l0_1 x31_3) 1) p181 q181
              obtain rfl : (⟨go10, 0, none⟩ : Addr) = ad181 := (by injection e181)
              (first | simp only [add_plain] at hx181_0 | simp only [add_at] at hx181_0 | simp only [Addr.add, Nat.zero_add] at hx181_0 | skip)
              replace p181 := eq_true p181; replace q181 := eq_true q181; go_wp2
              (try simp only [← hl5_3])
              go_roundg kj18
              case measure => have := HK1.out; have := HK2.out; have := HK3.out; have := HJ18.out; omega
              case rel => exact ⟨(x5_3), (wrap64 (x31_3 + 1)), er, H', ⟨by have := HK1.out; have := HK2.out; have := HK3.out; have := HJ18.out; omega⟩, ⟨by (try simp only [hl5_2]); (try simp only [hl5_3]); (with_reducible repeat (first | apply Kd.R_alloc | apply Kd.R_drewN | apply Kd.R_drew)); exact HO_5.out⟩, ⟨by (try simp only [hl5_2]); (try simp only [hl5_3]); (with_reducible repeat (first | refine blk_drewN ?_ _ | refine blk_drew ?_ | refine blk_alloc ?_ _)); exact BK162.out⟩, ⟨belowg1 HB GE162⟩⟩
         ·rw [if_neg c16] at H
          have c16b0 : decide (x31_3 < (l0_1.length : Int)) = false := decide_eq_false c16
          have c16b0s := c16b0
          (try simp only [hl5_2, hl5_3] at c16b0s)
          clear c16
          have H' := Aside0.mk H
          clear H; go_wp2
          (try simp only [← hl5_2, ← hl5_3])
          go_roundg k3
          case measure => have := HK1.out; have := HK2.out; have := HK3.out; omega
          case rel => exact ⟨(x5_3), (wrap64 (x7_2 + 1)), er, H', ⟨by have := HK1.out; have := HK2.out; have := HK3.out; omega⟩, ⟨by (try simp only [hl5_2]); (try simp only [hl5_3]); (with_reducible repeat (first | apply Kd.R_alloc | apply Kd.R_drewN | apply Kd.R_drew)); exact HO_5.out⟩, ⟨by (try simp only [hl5_2]); (try simp only [hl5_3]); (with_reducible repeat (first | refine blk_drewN ?_ _ | refine blk_drew ?_ | refine blk_alloc ?_ _)); exact BK162.out⟩, ⟨belowg1 HB GE162⟩⟩
      ·rw [if_neg c14] at H
       have c14b0 : decide (x7_2 < a0_0) = false := decide_eq_false c14
       clear c14
       obtain rfl := Option.some.inj H
       obtain ⟨hcz57_0, hcz57_1, hcz57_2, hfz57_0, hfz57_1, hfz57_2⟩ := box3 BK162; go_wp2
       go_ret
       exact ⟨_, er2, by (with_reducible repeat (first | apply Kd.R_alloc | apply Kd.R_drewN | apply Kd.R_drew)); exact HO_5.out, belowg1 HB GE162⟩

/-! ### spec_l15Pair: function 145 -/
def spec_l15Pair.l0 : Nat → Int → Int → List (List Int) → Int → Int → Option (Int)
  | 0, _, _, _, _, _ => none
  | k + 1, x1, x2, x10, x11, x12 => if x12 < x11 then (if 0 ≤ x12 then (if x12 < (x10.length : Int) then (if 0 < ((rd_L1 x10 x12).length : Int) then (if (rd (rd_L1 x10 x12) 0) = x1 then (if 1 < ((rd_L1 x10 x12).length : Int) then (if (rd (rd_L1 x10 x12) 1) = x2 then (some x12) else (if (rd (rd_L1 x10 x12) 0) = x2 then (if (rd (rd_L1 x10 x12) 1) = x1 then (some x12) else (spec_l15Pair.l0 k x1 x2 x10 x11 (wrap64 (x12 + 1)))) else (spec_l15Pair.l0 k x1 x2 x10 x11 (wrap64 (x12 + 1))))) else (none)) else (if (rd (rd_L1 x10 x12) 0) = x2 then (if 1 < ((rd_L1 x10 x12).length : Int) then (if (rd (rd_L1 x10 x12) 1) = x1 then (some x12) else (spec_l15Pair.l0 k x1 x2 x10 x11 (wrap64 (x12 + 1)))) else (none)) else (spec_l15Pair.l0 k x1 x2 x10 x11 (wrap64 (x12 + 1))))) else (none)) else (none)) else (none)) else (some (-1))
def spec_l15Pair.f (k : Nat) (a0_0 : Int) (l0_1 : List (List Int)) (l0_2 : List Int) (a1 : Int) (a2 : Int) : Option (Int) := spec_l15Pair.l0 k a1 a2 l0_1 (l0_1.length : Int) 0
theorem spec_l15Pair.mono_l : ∀ k, (∀ y0 y1 y2 y3 y4, LeO (spec_l15Pair.l0 k y0 y1 y2 y3 y4) (spec_l15Pair.l0 (k + 1) y0 y1 y2 y3 y4))
 | 0 => fun _ _ _ _ _ r h => by simp [spec_l15Pair.l0] at h
 | k + 1 => by
  have ih0 := spec_l15Pair.mono_l k
  ·intro y0 y1 y2 y3 y4
   unfold spec_l15Pair.l0
   repeat' (first | (with_reducible first | exact ih0 _ _ _ _ _ | exact LeO.refl _ | exact LeO.none _ | refine LeO.ite ?_ ?_ | refine LeO.bind ?_ (fun _ => ?_)) | exact ih0 _ _ _ _ _ | exact LeO.none _ | refine LeO.ite ?_ ?_ | refine LeO.bind ?_ (fun _ => ?_))
theorem spec_l15Pair.mono : ∀ a0 a1 a2 a3 a4 k, LeO (spec_l15Pair.f k a0 a1 a2 a3 a4) (spec_l15Pair.f (k + 1) a0 a1 a2 a3 a4) := by
 intro a0 a1 a2 a3 a4 k
 have ih0 := spec_l15Pair.mono_l k
 unfold spec_l15Pair.f
 repeat' (first | (with_reducible first | exact ih0 _ _ _ _ _ | exact LeO.refl _ | exact LeO.none _ | refine LeO.ite ?_ ?_ | refine LeO.bind ?_ (fun _ => ?_)) | exact ih0 _ _ _ _ _ | exact LeO.none _ | refine LeO.ite ?_ ?_ | refine LeO.bind ?_ (fun _ => ?_))
set_option maxHeartbeats 8000000 in
set_option maxRecDepth 100000 in
theorem spec_l15Pair.calls (k : Nat) (a0_0 : Int) (A0_1 : Option Addr) (c0_1 : Nat) (l0_1 : List (List Int)) (A0_2 : Option Addr) (c0_2 : Nat) (l0_2 : List Int) (a1 : Int) (a2 : Int) (r : Int) (w : World) (hr0_1 : Kd.C (Kd.slice 3 (Kd.int .i64)) w A0_1 l0_1.length l0_1) (hc0_1 : l0_1.length ≤ c0_1) (hr0_2 : Kd.C (Kd.int .i64) w A0_2 l0_2.length l0_2) (hc0_2 : l0_2.length ≤ c0_2) (h : spec_l15Pair.f k a0_0 l0_1 l0_2 a1 a2 = some r) :
  Calls Try.prog 145 #[.agg #[.int .i64 a0_0, .slice A0_1 l0_1.length c0_1, .slice A0_2 l0_2.length c0_2], .int .i64 a1, .int .i64 a2] w fun e w' => e = .returned (.int .i64 r) ∧ Below w.heap.size w w' := by
 have hu38 := Try.underlying38
 have HR0_1 := Aside0.mk hr0_1; have HC0_1 := Aside0.mk hc0_1; clear hr0_1 hc0_1; have HR0_2 := Aside0.mk hr0_2; have HC0_2 := Aside0.mk hc0_2; clear hr0_2 hc0_2
 have HB := Aside0.mk (Below.refl w.heap.size w)
 have H : (spec_l15Pair.l0 k a1 a2 l0_1 (l0_1.length : Int) 0) = some r := h
 clear h
 have H' := Aside0.mk H
 clear H
 go_enter Try.func145, Try.ntmps145
 go_wp2_with (first | ((with_reducible refine gate_dst (N := 3) rfl ?_); refine boxev 3 #[.int .i64 a0_0, .slice A0_1 l0_1.length c0_1, .slice A0_2 l0_2.length c0_2] 38 ?_; intro gb186 hg w4 hbox hb; have BK186 := ak (hbox); have GW186 := ak (hgl hg (belowd HB)); have GE186 := ak (hgl hg (belowd HB)); replace HB := ak (below_step (belowd HB) hb); clear hb hbox hg; obtain ⟨hcz5_0, hcz5_1, hcz5_2, hfz5_0, hfz5_1, hfz5_2⟩ := box3 BK186))
 go_loopg [12] k (fun kq v12 w' => ∃ (x12_1 : Int), v12 = .int .i64 x12_1 ∧ Aside0 (spec_l15Pair.l0 kq a1 a2 l0_1 (l0_1.length : Int) x12_1 = some r) ∧ Aside0 (kq ≤ k) ∧ Aside0 (w'.heap[gb186]? = some (.cells #[.int .i64 a0_0, (.slice A0_1 l0_1.length c0_1), (.slice A0_2 l0_2.length c0_2)] 38 (0, 0))) ∧ Aside0 (Below w.heap.size w w'))
 case atStart => exact ⟨(0), er, H', ⟨Nat.le_refl _⟩, ⟨blkd BK186⟩, ⟨belowg1 HB GE186⟩⟩
 case round =>
  clear H'
  (try clear hcz5_0); (try clear hcz5_1); (try clear hcz5_2); (try clear hfz5_0); (try clear hfz5_1); (try clear hfz5_2)
  obtain ⟨x12_1, rfl, HA, HK1, BK186, HB⟩ := hrel
  cases gk with
  | zero => exact absurd HA.out (by simp [spec_l15Pair.l0])
  | succ k1 =>
   have H := HA.out; clear HA
   simp only [spec_l15Pair.l0] at H
   by_cases c6 : x12_1 < (l0_1.length : Int)
   ·rw [if_pos c6] at H
    have c6b0 : decide (x12_1 < (l0_1.length : Int)) = true := decide_eq_true c6
    clear c6; replace H := ifS H; obtain ⟨c7, H⟩ := H; have c7b0 := decide_eq_true c7; clear c7; replace H := ifS H; obtain ⟨c8, H⟩ := H; have c8b0 := decide_eq_true c8; clear c8; replace H := ifS H; obtain ⟨c9, H⟩ := H; have c9b0 := decide_eq_true c9
    have c9b1 : decide (0 < (rd_L1 l0_1 x12_1).length) = true := decide_eq_true (by omega)
    clear c9
    by_cases c10 : (rd (rd_L1 l0_1 x12_1) 0) = a1
    ·rw [if_pos c10] at H
     have c10b0 : ((rd (rd_L1 l0_1 x12_1) 0) == a1) = true := beq_iff_eq.mpr c10
     have c10b1 : ((rd (rd_L1 l0_1 x12_1) 0) != a1) = false := bne_eq_false_iff_eq.mpr c10
     clear c10; replace H := ifS H; obtain ⟨c11, H⟩ := H; have c11b0 := decide_eq_true c11
     have c11b1 : decide (1 < (rd_L1 l0_1 x12_1).length) = true := decide_eq_true (by omega)
     clear c11
     by_cases c12 : (rd (rd_L1 l0_1 x12_1) 1) = a2
     ·rw [if_pos c12] at H
      have c12b0 : ((rd (rd_L1 l0_1 x12_1) 1) == a2) = true := beq_iff_eq.mpr c12
      have c12b1 : ((rd (rd_L1 l0_1 x12_1) 1) != a2) = false := bne_eq_false_iff_eq.mpr c12
      clear c12
      obtain rfl := Option.some.inj H
      have p187 : 0 ≤ (x12_1 : Int) := da
      have q187 : x12_1 < (l0_1.length : Int) := da
      obtain ⟨ad187, A187_0, c187_0, e187, hx187_0, hl187_0, hi187_0⟩ := at_L1 HR0_1.out x12_1 p187 q187
      cases e187
      replace hx187_0 := (HB.out.cell (World.block_lt_of_cell? w _ hx187_0)).trans hx187_0
      have HR187_0 := Aside0.mk hi187_0; have HC187_0 := Aside0.mk hl187_0; clear hi187_0 hl187_0; replace p187 := eq_true p187; replace q187 := eq_true q187
      have p188 : 0 ≤ (0 : Int) := (by omega)
      have q188 : 0 < ((rd_L1 l0_1 x12_1).length : Int) := da
      obtain ⟨ad188, e188, hx188_0⟩ := Kd.at_int HR187_0.out 0 p188 q188
      cases e188
      have qi188 : (0 < (rd_L1 l0_1 x12_1).length) = True := eq_true (by omega)
      (try rw [show ((0 : Int)).toNat = 0 from rfl] at hx188_0)
      (try rw [Addr.add_zero'] at hx188_0)
      replace hx188_0 := (HB.out.cell (World.block_lt_of_cell? w _ hx188_0)).trans hx188_0
      replace p188 := eq_true p188; replace q188 := eq_true q188
      have p189 : 0 ≤ (1 : Int) := (by omega)
      have q189 : 1 < ((rd_L1 l0_1 x12_1).length : Int) := da
      obtain ⟨ad189, e189, hx189_0⟩ := Kd.at_int HR187_0.out 1 p189 q189
      obtain rfl : ad188 = ad189 := (by injection e189)
      (try simp only [show (1 : Int).toNat = 1 from rfl, Nat.reduceMul, Nat.reduceEqDiff, Go.Addr.add, ↓reduceIte] at hx189_0)
      have qi189 : (1 < (rd_L1 l0_1 x12_1).length) = True := eq_true (by omega)
      (try rw [show ((1 : Int)).toNat = 1 from rfl] at hx189_0)
      replace hx189_0 := (HB.out.cell (World.block_lt_of_cell? w _ hx189_0)).trans hx189_0
      replace p189 := eq_true p189; replace q189 := eq_true q189; go_wp2
      go_ret
      exact ⟨er2, belowg1 HB GE186⟩
     ·rw [if_neg c12] at H
      have c12b0 : ((rd (rd_L1 l0_1 x12_1) 1) == a2) = false := beq_eq_false_iff_ne.mpr c12
      have c12b1 : ((rd (rd_L1 l0_1 x12_1) 1) != a2) = true := bne_iff_ne.mpr c12
      by_cases c13 : (rd (rd_L1 l0_1 x12_1) 0) = a2
      ·rw [if_pos c13] at H
       have c13b0 : ((rd (rd_L1 l0_1 x12_1) 0) == a2) = true := beq_iff_eq.mpr c13
       have c13b1 : ((rd (rd_L1 l0_1 x12_1) 0) != a2) = false := bne_eq_false_iff_eq.mpr c13
       clear c13
       by_cases c14 : (rd (rd_L1 l0_1 x12_1) 1) = a1
       ·rw [if_pos c14] at H
        have c14b0 : ((rd (rd_L1 l0_1 x12_1) 1) == a1) = true := beq_iff_eq.mpr c14
        have c14b1 : ((rd (rd_L1 l0_1 x12_1) 1) != a1) = false := bne_eq_false_iff_eq.mpr c14
        clear c14
        obtain rfl := Option.some.inj H
        have p187 : 0 ≤ (x12_1 : Int) := da
        have q187 : x12_1 < (l0_1.length : Int) := da
        obtain ⟨ad187, A187_0, c187_0, e187, hx187_0, hl187_0, hi187_0⟩ := at_L1 HR0_1.out x12_1 p187 q187
        cases e187
        replace hx187_0 := (HB.out.cell (World.block_lt_of_cell? w _ hx187_0)).trans hx187_0
        have HR187_0 := Aside0.mk hi187_0; have HC187_0 := Aside0.mk hl187_0; clear hi187_0 hl187_0; replace p187 := eq_true p187; replace q187 := eq_true q187
        have p188 : 0 ≤ (0 : Int) := (by omega)
        have q188 : 0 < ((rd_L1 l0_1 x12_1).length : Int) := da
        obtain ⟨ad188, e188, hx188_0⟩ := Kd.at_int HR187_0.out 0 p188 q188
        cases e188
        have qi188 : (0 < (rd_L1 l0_1 x12_1).length) = True := eq_true (by omega)
        (try rw [show ((0 : Int)).toNat = 0 from rfl] at hx188_0)
        (try rw [Addr.add_zero'] at hx188_0)
        replace hx188_0 := (HB.out.cell (World.block_lt_of_cell? w _ hx188_0)).trans hx188_0
        replace p188 := eq_true p188; replace q188 := eq_true q188
        have p189 : 0 ≤ (1 : Int) := (by omega)
        have q189 : 1 < ((rd_L1 l0_1 x12_1).length : Int) := da
        obtain ⟨ad189, e189, hx189_0⟩ := Kd.at_int HR187_0.out 1 p189 q189
        obtain rfl : ad188 = ad189 := (by injection e189)
        (try simp only [show (1 : Int).toNat = 1 from rfl, Nat.reduceMul, Nat.reduceEqDiff, Go.Addr.add, ↓reduceIte] at hx189_0)
        have qi189 : (1 < (rd_L1 l0_1 x12_1).length) = True := eq_true (by omega)
        (try rw [show ((1 : Int)).toNat = 1 from rfl] at hx189_0)
        replace hx189_0 := (HB.out.cell (World.block_lt_of_cell? w _ hx189_0)).trans hx189_0
        replace p189 := eq_true p189; replace q189 := eq_true q189
        have p190 : 0 ≤ (0 : Int) := (by omega)
        have q190 : 0 < ((rd_L1 l0_1 x12_1).length : Int) := da
        obtain ⟨ad190, e190, hx190_0⟩ := Kd.at_int HR187_0.out 0 p190 q190
        obtain rfl : ad188 = ad190 := (by injection e190)
        have qi190 : (0 < (rd_L1 l0_1 x12_1).length) = True := eq_true (by omega)
        (try rw [show ((0 : Int)).toNat = 0 from rfl] at hx190_0)
        (try rw [Addr.add_zero'] at hx190_0)
        replace hx190_0 := (HB.out.cell (World.block_lt_of_cell? w _ hx190_0)).trans hx190_0
        replace p190 := eq_true p190; replace q190 := eq_true q190
        have p191 : 0 ≤ (1 : Int) := (by omega)
        have q191 : 1 < ((rd_L1 l0_1 x12_1).length : Int) := da
        obtain ⟨ad191, e191, hx191_0⟩ := Kd.at_int HR187_0.out 1 p191 q191
        obtain rfl : ad188 = ad191 := (by injection e191)
        (try simp only [show (1 : Int).toNat = 1 from rfl, Nat.reduceMul, Nat.reduceEqDiff, Go.Addr.add, ↓reduceIte] at hx191_0)
        have qi191 : (1 < (rd_L1 l0_1 x12_1).length) = True := eq_true (by omega)
        (try rw [show ((1 : Int)).toNat = 1 from rfl] at hx191_0)
        replace hx191_0 := (HB.out.cell (World.block_lt_of_cell? w _ hx191_0)).trans hx191_0
        replace p191 := eq_true p191; replace q191 := eq_true q191; go_wp2
        go_ret
        exact ⟨er2, belowg1 HB GE186⟩
       ·rw [if_neg c14] at H
        have c14b0 : ((rd (rd_L1 l0_1 x12_1) 1) == a1) = false := beq_eq_false_iff_ne.mpr c14
        have c14b1 : ((rd (rd_L1 l0_1 x12_1) 1) != a1) = true := bne_iff_ne.mpr c14
        have H' := Aside0.mk H
        clear H
        have p187 : 0 ≤ (x12_1 : Int) := da
        have q187 : x12_1 < (l0_1.length : Int) := da
        obtain ⟨ad187, A187_0, c187_0, e187, hx187_0, hl187_0, hi187_0⟩ := at_L1 HR0_1.out x12_1 p187 q187
        cases e187
        replace hx187_0 := (HB.out.cell (World.block_lt_of_cell? w _ hx187_0)).trans hx187_0
        have HR187_0 := Aside0.mk hi187_0; have HC187_0 := Aside0.mk hl187_0; clear hi187_0 hl187_0; replace p187 := eq_true p187; replace q187 := eq_true q187
        have p188 : 0 ≤ (0 : Int) := (by omega)
        have q188 : 0 < ((rd_L1 l0_1 x12_1).length : Int) := da
        obtain ⟨ad188, e188, hx188_0⟩ := Kd.at_int HR187_0.out 0 p188 q188
        cases e188
        have qi188 : (0 < (rd_L1 l0_1 x12_1).length) = True := eq_true (by omega)
        (try rw [show ((0 : Int)).toNat = 0 from rfl] at hx188_0)
        (try rw [Addr.add_zero'] at hx188_0)
        replace hx188_0 := (HB.out.cell (World.block_lt_of_cell? w _ hx188_0)).trans hx188_0
        replace p188 := eq_true p188; replace q188 := eq_true q188
        have p189 : 0 ≤ (1 : Int) := (by omega)
        have q189 : 1 < ((rd_L1 l0_1 x12_1).length : Int) := da
        obtain ⟨ad189, e189, hx189_0⟩ := Kd.at_int HR187_0.out 1 p189 q189
        obtain rfl : ad188 = ad189 := (by injection e189)
        (try simp only [show (1 : Int).toNat = 1 from rfl, Nat.reduceMul, Nat.reduceEqDiff, Go.Addr.add, ↓reduceIte] at hx189_0)
        have qi189 : (1 < (rd_L1 l0_1 x12_1).length) = True := eq_true (by omega)
        (try rw [show ((1 : Int)).toNat = 1 from rfl] at hx189_0)
        replace hx189_0 := (HB.out.cell (World.block_lt_of_cell? w _ hx189_0)).trans hx189_0
        replace p189 := eq_true p189; replace q189 := eq_true q189
        have p190 : 0 ≤ (0 : Int) := (by omega)
        have q190 : 0 < ((rd_L1 l0_1 x12_1).length : Int) := da
        obtain ⟨ad190, e190, hx190_0⟩ := Kd.at_int HR187_0.out 0 p190 q190
        obtain rfl : ad188 = ad190 := (by injection e190)
        have qi190 : (0 < (rd_L1 l0_1 x12_1).length) = True := eq_true (by omega)
        (try rw [show ((0 : Int)).toNat = 0 from rfl] at hx190_0)
        (try rw [Addr.add_zero'] at hx190_0)
        replace hx190_0 := (HB.out.cell (World.block_lt_of_cell? w _ hx190_0)).trans hx190_0
        replace p190 := eq_true p190; replace q190 := eq_true q190
        have p191 : 0 ≤ (1 : Int) := (by omega)
        have q191 : 1 < ((rd_L1 l0_1 x12_1).length : Int) := da
        obtain ⟨ad191, e191, hx191_0⟩ := Kd.at_int HR187_0.out 1 p191 q191
        obtain rfl : ad188 = ad191 := (by injection e191)
        (try simp only [show (1 : Int).toNat = 1 from rfl, Nat.reduceMul, Nat.reduceEqDiff, Go.Addr.add, ↓reduceIte] at hx191_0)
        have qi191 : (1 < (rd_L1 l0_1 x12_1).length) = True := eq_true (by omega)
        (try rw [show ((1 : Int)).toNat = 1 from rfl] at hx191_0)
        replace hx191_0 := (HB.out.cell (World.block_lt_of_cell? w _ hx191_0)).trans hx191_0
        replace p191 := eq_true p191; replace q191 := eq_true q191; go_wp2
        go_roundg k1
        case measure => have := HK1.out; omega
        case rel => exact ⟨(wrap64 (x12_1 + 1)), er, H', ⟨by have := HK1.out; omega⟩, ⟨blkd BK186⟩, ⟨belowg1 HB GE186⟩⟩
      ·rw [if_neg c13] at H
       have c13b0 : ((rd (rd_L1 l0_1 x12_1) 0) == a2) = false := beq_eq_false_iff_ne.mpr c13
       have c13b1 : ((rd (rd_L1 l0_1 x12_1) 0) != a2) = true := bne_iff_ne.mpr c13
       have H' := Aside0.mk H
       clear H
       have p187 : 0 ≤ (x12_1 : Int) := da
       have q187 : x12_1 < (l0_1.length : Int) := da
       obtain ⟨ad187, A187_0, c187_0, e187, hx187_0, hl187_0, hi187_0⟩ := at_L1 HR0_1.out x12_1 p187 q187
       cases e187
       replace hx187_0 := (HB.out.cell (World.block_lt_of_cell? w _ hx187_0)).trans hx187_0
       have HR187_0 := Aside0.mk hi187_0; have HC187_0 := Aside0.mk hl187_0; clear hi187_0 hl187_0; replace p187 := eq_true p187; replace q187 := eq_true q187
       have p188 : 0 ≤ (0 : Int) := (by omega)
       have q188 : 0 < ((rd_L1 l0_1 x12_1).length : Int) := da
       obtain ⟨ad188, e188, hx188_0⟩ := Kd.at_int HR187_0.out 0 p188 q188
       cases e188
       have qi188 : (0 < (rd_L1 l0_1 x12_1).length) = True := eq_true (by omega)
       (try rw [show ((0 : Int)).toNat = 0 from rfl] at hx188_0)
       (try rw [Addr.add_zero'] at hx188_0)
       replace hx188_0 := (HB.out.cell (World.block_lt_of_cell? w _ hx188_0)).trans hx188_0
       replace p188 := eq_true p188; replace q188 := eq_true q188
       have p189 : 0 ≤ (1 : Int) := (by omega)
       have q189 : 1 < ((rd_L1 l0_1 x12_1).length : Int) := da
       obtain ⟨ad189, e189, hx189_0⟩ := Kd.at_int HR187_0.out 1 p189 q189
       obtain rfl : ad188 = ad189 := (by injection e189)
       (try simp only [show (1 : Int).toNat = 1 from rfl, Nat.reduceMul, Nat.reduceEqDiff, Go.Addr.add, ↓reduceIte] at hx189_0)
       have qi189 : (1 < (rd_L1 l0_1 x12_1).length) = True := eq_true (by omega)
       (try rw [show ((1 : Int)).toNat = 1 from rfl] at hx189_0)
       replace hx189_0 := (HB.out.cell (World.block_lt_of_cell? w _ hx189_0)).trans hx189_0
       replace p189 := eq_true p189; replace q189 := eq_true q189
       have p190 : 0 ≤ (0 : Int) := (by omega)
       have q190 : 0 < ((rd_L1 l0_1 x12_1).length : Int) := da
       obtain ⟨ad190, e190, hx190_0⟩ := Kd.at_int HR187_0.out 0 p190 q190
       obtain rfl : ad188 = ad190 := (by injection e190)
       have qi190 : (0 < (rd_L1 l0_1 x12_1).length) = True := eq_true (by omega)
       (try rw [show ((0 : Int)).toNat = 0 from rfl] at hx190_0)
       (try rw [Addr.add_zero'] at hx190_0)
       replace hx190_0 := (HB.out.cell (World.block_lt_of_cell? w _ hx190_0)).trans hx190_0
       replace p190 := eq_true p190; replace q190 := eq_true q190; go_wp2
       go_roundg k1
       case measure => have := HK1.out; omega
       case rel => exact ⟨(wrap64 (x12_1 + 1)), er, H', ⟨by have := HK1.out; omega⟩, ⟨blkd BK186⟩, ⟨belowg1 HB GE186⟩⟩
    ·rw [if_neg c10] at H
     have c10b0 : ((rd (rd_L1 l0_1 x12_1) 0) == a1) = false := beq_eq_false_iff_ne.mpr c10
     have c10b1 : ((rd (rd_L1 l0_1 x12_1) 0) != a1) = true := bne_iff_ne.mpr c10
     by_cases c15 : (rd (rd_L1 l0_1 x12_1) 0) = a2
     ·rw [if_pos c15] at H
      have c15b0 : ((rd (rd_L1 l0_1 x12_1) 0) == a2) = true := beq_iff_eq.mpr c15
      have c15b1 : ((rd (rd_L1 l0_1 x12_1) 0) != a2) = false := bne_eq_false_iff_eq.mpr c15
      clear c15; replace H := ifS H; obtain ⟨c16, H⟩ := H; have c16b0 := decide_eq_true c16
      have c16b1 : decide (1 < (rd_L1 l0_1 x12_1).length) = true := decide_eq_true (by omega)
      clear c16
      by_cases c17 : (rd (rd_L1 l0_1 x12_1) 1) = a1
      ·rw [if_pos c17] at H
       have c17b0 : ((rd (rd_L1 l0_1 x12_1) 1) == a1) = true := beq_iff_eq.mpr c17
       have c17b1 : ((rd (rd_L1 l0_1 x12_1) 1) != a1) = false := bne_eq_false_iff_eq.mpr c17
       clear c17
       obtain rfl := Option.some.inj H
       have p187 : 0 ≤ (x12_1 : Int) := da
       have q187 : x12_1 < (l0_1.length : Int) := da
       obtain ⟨ad187, A187_0, c187_0, e187, hx187_0, hl187_0, hi187_0⟩ := at_L1 HR0_1.out x12_1 p187 q187
       cases e187
       replace hx187_0 := (HB.out.cell (World.block_lt_of_cell? w _ hx187_0)).trans hx187_0
       have HR187_0 := Aside0.mk hi187_0; have HC187_0 := Aside0.mk hl187_0; clear hi187_0 hl187_0; replace p187 := eq_true p187; replace q187 := eq_true q187
       have p188 : 0 ≤ (0 : Int) := (by omega)
       have q188 : 0 < ((rd_L1 l0_1 x12_1).length : Int) := da
       obtain ⟨ad188, e188, hx188_0⟩ := Kd.at_int HR187_0.out 0 p188 q188
       cases e188
       have qi188 : (0 < (rd_L1 l0_1 x12_1).length) = True := eq_true (by omega)
       (try rw [show ((0 : Int)).toNat = 0 from rfl] at hx188_0)
       (try rw [Addr.add_zero'] at hx188_0)
       replace hx188_0 := (HB.out.cell (World.block_lt_of_cell? w _ hx188_0)).trans hx188_0
       replace p188 := eq_true p188; replace q188 := eq_true q188
       have p192 : 0 ≤ (0 : Int) := (by omega)
       have q192 : 0 < ((rd_L1 l0_1 x12_1).length : Int) := da
       obtain ⟨ad192, e192, hx192_0⟩ := Kd.at_int HR187_0.out 0 p192 q192
       obtain rfl : ad188 = ad192 := (by injection e192)
       have qi192 : (0 < (rd_L1 l0_1 x12_1).length) = True := eq_true (by omega)
       (try rw [show ((0 : Int)).toNat = 0 from rfl] at hx192_0)
       (try rw [Addr.add_zero'] at hx192_0)
       replace hx192_0 := (HB.out.cell (World.block_lt_of_cell? w _ hx192_0)).trans hx192_0
       replace p192 := eq_true p192; replace q192 := eq_true q192
       have p193 : 0 ≤ (1 : Int) := (by omega)
       have q193 : 1 < ((rd_L1 l0_1 x12_1).length : Int) := da
       obtain ⟨ad193, e193, hx193_0⟩ := Kd.at_int HR187_0.out 1 p193 q193
       obtain rfl : ad188 = ad193 := (by injection e193)
       (try simp only [show (1 : Int).toNat = 1 from rfl, Nat.reduceMul, Nat.reduceEqDiff, Go.Addr.add, ↓reduceIte] at hx193_0)
       have qi193 : (1 < (rd_L1 l0_1 x12_1).length) = True := eq_true (by omega)
       (try rw [show ((1 : Int)).toNat = 1 from rfl] at hx193_0)
       replace hx193_0 := (HB.out.cell (World.block_lt_of_cell? w _ hx193_0)).trans hx193_0
       replace p193 := eq_true p193; replace q193 := eq_true q193; go_wp2
       go_ret
       exact ⟨er2, belowg1 HB GE186⟩
      ·rw [if_neg c17] at H
       have c17b0 : ((rd (rd_L1 l0_1 x12_1) 1) == a1) = false := beq_eq_false_iff_ne.mpr c17
       have c17b1 : ((rd (rd_L1 l0_1 x12_1) 1) != a1) = true := bne_iff_ne.mpr c17
       have H' := Aside0.mk H
       clear H
       have p187 : 0 ≤ (x12_1 : Int) := da
       have q187 : x12_1 < (l0_1.length : Int) := da
       obtain ⟨ad187, A187_0, c187_0, e187, hx187_0, hl187_0, hi187_0⟩ := at_L1 HR0_1.out x12_1 p187 q187
       cases e187
       replace hx187_0 := (HB.out.cell (World.block_lt_of_cell? w _ hx187_0)).trans hx187_0
       have HR187_0 := Aside0.mk hi187_0; have HC187_0 := Aside0.mk hl187_0; clear hi187_0 hl187_0; replace p187 := eq_true p187; replace q187 := eq_true q187
       have p188 : 0 ≤ (0 : Int) := (by omega)
       have q188 : 0 < ((rd_L1 l0_1 x12_1).length : Int) := da
       obtain ⟨ad188, e188, hx188_0⟩ := Kd.at_int HR187_0.out 0 p188 q188
       cases e188
       have qi188 : (0 < (rd_L1 l0_1 x12_1).length) = True := eq_true (by omega)
       (try rw [show ((0 : Int)).toNat = 0 from rfl] at hx188_0)
       (try rw [Addr.add_zero'] at hx188_0)
       replace hx188_0 := (HB.out.cell (World.block_lt_of_cell? w _ hx188_0)).trans hx188_0
       replace p188 := eq_true p188; replace q188 := eq_true q188
       have p192 : 0 ≤ (0 : Int) := (by omega)
       have q192 : 0 < ((rd_L1 l0_1 x12_1).length : Int) := da
       obtain ⟨ad192, e192, hx192_0⟩ := Kd.at_int HR187_0.out 0 p192 q192
       obtain rfl : ad188 = ad192 := (by injection e192)
       have qi192 : (0 < (rd_L1 l0_1 x12_1).length) = True := eq_true (by omega)
       (try rw [show ((0 : Int)).toNat = 0 from rfl] at hx192_0)
       (try rw [Addr.add_zero'] at hx192_0)
       replace hx192_0 := (HB.out.cell (World.block_lt_of_cell? w _ hx192_0)).trans hx192_0
       replace p192 := eq_true p192; replace q192 := eq_true q192
       have p193 : 0 ≤ (1 : Int) := (by omega)
       have q193 : 1 < ((rd_L1 l0_1 x12_1).length : Int) := da
       obtain ⟨ad193, e193, hx193_0⟩ := Kd.at_int HR187_0.out 1 p193 q193
       obtain rfl : ad188 = ad193 := (by injection e193)
       (try simp only [show (1 : Int).toNat = 1 from rfl, Nat.reduceMul, Nat.reduceEqDiff, Go.Addr.add, ↓reduceIte] at hx193_0)
       have qi193 : (1 < (rd_L1 l0_1 x12_1).length) = True := eq_true (by omega)
       (try rw [show ((1 : Int)).toNat = 1 from rfl] at hx193_0)
       replace hx193_0 := (HB.out.cell (World.block_lt_of_cell? w _ hx193_0)).trans hx193_0
       replace p193 := eq_true p193; replace q193 := eq_true q193; go_wp2
       go_roundg k1
       case measure => have := HK1.out; omega
       case rel => exact ⟨(wrap64 (x12_1 + 1)), er, H', ⟨by have := HK1.out; omega⟩, ⟨blkd BK186⟩, ⟨belowg1 HB GE186⟩⟩
     ·rw [if_neg c15] at H
      have c15b0 : ((rd (rd_L1 l0_1 x12_1) 0) == a2) = false := beq_eq_false_iff_ne.mpr c15
      have c15b1 : ((rd (rd_L1 l0_1 x12_1) 0) != a2) = true := bne_iff_ne.mpr c15
      have H' := Aside0.mk H
      clear H
      have p187 : 0 ≤ (x12_1 : Int) := da
      have q187 : x12_1 < (l0_1.length : Int) := da
      obtain ⟨ad187, A187_0, c187_0, e187, hx187_0, hl187_0, hi187_0⟩ := at_L1 HR0_1.out x12_1 p187 q187
      cases e187
      replace hx187_0 := (HB.out.cell (World.block_lt_of_cell? w _ hx187_0)).trans hx187_0
      have HR187_0 := Aside0.mk hi187_0; have HC187_0 := Aside0.mk hl187_0; clear hi187_0 hl187_0; replace p187 := eq_true p187; replace q187 := eq_true q187
      have p188 : 0 ≤ (0 : Int) := (by omega)
      have q188 : 0 < ((rd_L1 l0_1 x12_1).length : Int) := da
      obtain ⟨ad188, e188, hx188_0⟩ := Kd.at_int HR187_0.out 0 p188 q188
      cases e188
      have qi188 : (0 < (rd_L1 l0_1 x12_1).length) = True := eq_true (by omega)
      (try rw [show ((0 : Int)).toNat = 0 from rfl] at hx188_0)
      (try rw [Addr.add_zero'] at hx188_0)
      replace hx188_0 := (HB.out.cell (World.block_lt_of_cell? w _ hx188_0)).trans hx188_0
      replace p188 := eq_true p188; replace q188 := eq_true q188
      have p192 : 0 ≤ (0 : Int) := (by omega)
      have q192 : 0 < ((rd_L1 l0_1 x12_1).length : Int) := da
      obtain ⟨ad192, e192, hx192_0⟩ := Kd.at_int HR187_0.out 0 p192 q192
      obtain rfl : ad188 = ad192 := (by injection e192)
      have qi192 : (0 < (rd_L1 l0_1 x12_1).length) = True := eq_true (by omega)
      (try rw [show ((0 : Int)).toNat = 0 from rfl] at hx192_0)
      (try rw [Addr.add_zero'] at hx192_0)
      replace hx192_0 := (HB.out.cell (World.block_lt_of_cell? w _ hx192_0)).trans hx192_0
      replace p192 := eq_true p192; replace q192 := eq_true q192; go_wp2
      go_roundg k1
      case measure => have := HK1.out; omega
      case rel => exact ⟨(wrap64 (x12_1 + 1)), er, H', ⟨by have := HK1.out; omega⟩, ⟨blkd BK186⟩, ⟨belowg1 HB GE186⟩⟩
   ·rw [if_neg c6] at H
    have c6b0 : decide (x12_1 < (l0_1.length : Int)) = false := decide_eq_false c6
    clear c6
    obtain rfl := Option.some.inj H
    go_wp2
    go_ret
    exact ⟨er2, belowg1 HB GE186⟩

end Go.Proofs.Ytpibdgknmjjolaa.QFnExactOtherCoins
