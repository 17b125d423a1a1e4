-- printed by this session's own program (wip/tools/pp.py: the kit's print.py with changes); Lean checks it
import Derived.Test.YtpibdgknmjjolaaQFnGroupsx0
import Derived.Test.YtpibdgknmjjolaaQFnGroupsx1
namespace Go.Proofs.Ytpibdgknmjjolaa.QFnGroups
open Go.RowKit Go.Proofs.YtpibdgknmjjolaaW.PrintWords Go.Proofs.YtpibdgknmjjolaaW.PrintLast Go.Proofs.YtpibdgknmjjolaaW.PrintMore
attribute [local go_sem] max2_int min2_int max_two min_two max_three min_three max_four min_four strLss strGtr strLeq strGeq   -- for this text's walks alone
set_option linter.unusedVariables false
set_option linter.unusedSimpArgs false

/-! ### spec_l15Far: function 106 -/
mutual
def spec_l15Far.l0 : Nat → Int → List Int → Int → Int → List (List Int) → List Int → Option (List Int)
  | 0, _, _, _, _, _, _ => none
  | k + 1, x1, x5, x6, x122000, x122001, x122002 => if x6 < x122000 then (if x5.length < 17592186044416 then (spec_l15Far.l0 k x1 (x5 ++ [(-1)]) (wrap64 (x6 + 1)) x122000 x122001 x122002) else (none)) else (if 0 ≤ x1 then (if x1 < (x5.length : Int) then (spec_l15Far.l1 k (x5.set (x1 : Int).toNat 0) 0 x122000 x122001 x122002) else (none)) else (none))
def spec_l15Far.l1 : Nat → List Int → Int → Int → List (List Int) → List Int → Option (List Int)
  | 0, _, _, _, _, _ => none
  | k + 1, x5, x7, x122000, x122001, x122002 => if x7 < x122000 then (spec_l15Far.l2 k x5 x7 x122001 (x122001.length : Int) 0 x122000 x122001 x122002) else (some x5)
def spec_l15Far.l2 : Nat → List Int → Int → List (List Int) → Int → Int → Int → List (List Int) → List Int → Option (List Int)
  | 0, _, _, _, _, _, _, _, _ => none
  | k + 1, x5, x7, x29, x30, x31, x122000, x122001, x122002 => if x31 < x30 then (if 0 ≤ x31 then (if x31 < (x29.length : Int) then (if 0 < ((rd_L1 x29 x31).length : Int) then (if 0 ≤ (rd (rd_L1 x29 x31) 0) then (if (rd (rd_L1 x29 x31) 0) < (x5.length : Int) then (if (rd x5 (rd (rd_L1 x29 x31) 0)) = x7 then (if 1 < ((rd_L1 x29 x31).length : Int) then (if 0 ≤ (rd (rd_L1 x29 x31) 1) then (if (rd (rd_L1 x29 x31) 1) < (x5.length : Int) then (spec_l15Far.j3 k x5 x7 (rd_L1 x29 x31) x29 x30 x31 (decide ((rd x5 (rd (rd_L1 x29 x31) 1)) < 0)) x122000 x122001 x122002) else (none)) else (none)) else (none)) else (spec_l15Far.j3 k x5 x7 (rd_L1 x29 x31) x29 x30 x31 false x122000 x122001 x122002)) else (none)) else (none)) else (none)) else (none)) else (none)) else (spec_l15Far.l1 k x5 (wrap64 (x7 + 1)) x122000 x122001 x122002)
def spec_l15Far.j3 : Nat → List Int → Int → List Int → List (List Int) → Int → Int → Bool → Int → List (List Int) → List Int → Option (List Int)
  | 0, _, _, _, _, _, _, _, _, _, _ => none
  | k + 1, x5, x7, x9, x29, x30, x31, x51, x122000, x122001, x122002 => if x51 = true then (if 1 < (x9.length : Int) then (if 0 ≤ (rd x9 1) then (if (rd x9 1) < (x5.length : Int) then ((some (x5.set ((rd x9 1) : Int).toNat (wrap64 (x7 + 1)) : List Int)).bind fun y132 => (if (rd y132 (rd x9 1)) = x7 then (if 0 < (x9.length : Int) then (if 0 ≤ (rd x9 0) then (if (rd x9 0) < (x5.length : Int) then (if (rd y132 (rd x9 0)) < 0 then (spec_l15Far.l2 k (y132.set ((rd x9 0) : Int).toNat (wrap64 (x7 + 1))) x7 x29 x30 (wrap64 (x31 + 1)) x122000 x122001 x122002) else (spec_l15Far.l2 k y132 x7 x29 x30 (wrap64 (x31 + 1)) x122000 x122001 x122002)) else (none)) else (none)) else (none)) else (spec_l15Far.l2 k y132 x7 x29 x30 (wrap64 (x31 + 1)) x122000 x122001 x122002))) else (none)) else (none)) else (none)) else (if 1 < (x9.length : Int) then (if 0 ≤ (rd x9 1) then (if (rd x9 1) < (x5.length : Int) then (if (rd x5 (rd x9 1)) = x7 then (if 0 < (x9.length : Int) then (if 0 ≤ (rd x9 0) then (if (rd x9 0) < (x5.length : Int) then (if (rd x5 (rd x9 0)) < 0 then (spec_l15Far.l2 k (x5.set ((rd x9 0) : Int).toNat (wrap64 (x7 + 1))) x7 x29 x30 (wrap64 (x31 + 1)) x122000 x122001 x122002) else (spec_l15Far.l2 k x5 x7 x29 x30 (wrap64 (x31 + 1)) x122000 x122001 x122002)) else (none)) else (none)) else (none)) else (spec_l15Far.l2 k x5 x7 x29 x30 (wrap64 (x31 + 1)) x122000 x122001 x122002)) else (none)) else (none)) else (none))
end
def spec_l15Far.f (k : Nat) (a0_0 : Int) (l0_1 : List (List Int)) (l0_2 : List Int) (a1 : Int) : Option (List Int) := spec_l15Far.l0 k a1 ([] : List Int) 0 a0_0 l0_1 l0_2
theorem spec_l15Far.mono_l : ∀ k, (∀ y0 y1 y2 y3 y4 y5, LeO (spec_l15Far.l0 k y0 y1 y2 y3 y4 y5) (spec_l15Far.l0 (k + 1) y0 y1 y2 y3 y4 y5)) ∧ (∀ y0 y1 y2 y3 y4, LeO (spec_l15Far.l1 k y0 y1 y2 y3 y4) (spec_l15Far.l1 (k + 1) y0 y1 y2 y3 y4)) ∧ (∀ y0 y1 y2 y3 y4 y5 y6 y7, LeO (spec_l15Far.l2 k y0 y1 y2 y3 y4 y5 y6 y7) (spec_l15Far.l2 (k + 1) y0 y1 y2 y3 y4 y5 y6 y7)) ∧ (∀ y0 y1 y2 y3 y4 y5 y6 y7 y8 y9, LeO (spec_l15Far.j3 k y0 y1 y2 y3 y4 y5 y6 y7 y8 y9) (spec_l15Far.j3 (k + 1) y0 y1 y2 y3 y4 y5 y6 y7 y8 y9))
 | 0 => ⟨fun _ _ _ _ _ _ r h => by simp [spec_l15Far.l0] at h, fun _ _ _ _ _ r h => by simp [spec_l15Far.l1] at h, fun _ _ _ _ _ _ _ _ r h => by simp [spec_l15Far.l2] at h, fun _ _ _ _ _ _ _ _ _ _ r h => by simp [spec_l15Far.j3] at h⟩
 | k + 1 => by
  obtain ⟨ih0, ih1, ih2, ih3⟩ := spec_l15Far.mono_l k
  refine ⟨?_, ?_, ?_, ?_⟩
  ·intro y0 y1 y2 y3 y4 y5
   unfold spec_l15Far.l0
   repeat' (first | (with_reducible first | exact ih0 _ _ _ _ _ _ | exact ih1 _ _ _ _ _ | exact ih2 _ _ _ _ _ _ _ _ | exact ih3 _ _ _ _ _ _ _ _ _ _ | exact LeO.refl _ | exact LeO.none _ | refine LeO.ite ?_ ?_ | refine LeO.bind ?_ (fun _ => ?_)) | exact ih0 _ _ _ _ _ _ | exact ih1 _ _ _ _ _ | exact ih2 _ _ _ _ _ _ _ _ | exact ih3 _ _ _ _ _ _ _ _ _ _ | exact LeO.none _ | refine LeO.ite ?_ ?_ | refine LeO.bind ?_ (fun _ => ?_))
  ·intro y0 y1 y2 y3 y4
   unfold spec_l15Far.l1
   repeat' (first | (with_reducible first | exact ih0 _ _ _ _ _ _ | exact ih1 _ _ _ _ _ | exact ih2 _ _ _ _ _ _ _ _ | exact ih3 _ _ _ _ _ _ _ _ _ _ | exact LeO.refl _ | exact LeO.none _ | refine LeO.ite ?_ ?_ | refine LeO.bind ?_ (fun _ => ?_)) | exact ih0 _ _ _ _ _ _ | exact ih1 _ _ _ _ _ | exact ih2 _ _ _ _ _ _ _ _ | exact ih3 _ _ _ _ _ _ _ _ _ _ | exact LeO.none _ | refine LeO.ite ?_ ?_ | refine LeO.bind ?_ (fun _ => ?_))
  ·intro y0 y1 y2 y3 y4 y5 y6 y7
   unfold spec_l15Far.l2
   repeat' (first | (with_reducible first | exact ih0 _ _ _ _ _ _ | exact ih1 _ _ _ _ _ | exact ih2 _ _ _ _ _ _ _ _ | exact ih3 _ _ _ _ _ _ _ _ _ _ | exact LeO.refl _ | exact LeO.none _ | refine LeO.ite ?_ ?_ | refine LeO.bind ?_ (fun _ => ?_)) | exact ih0 _ _ _ _ _ _ | exact ih1 _ _ _ _ _ | exact ih2 _ _ _ _ _ _ _ _ | exact ih3 _ _ _ _ _ _ _ _ _ _ | exact LeO.none _ | refine LeO.ite ?_ ?_ | refine LeO.bind ?_ (fun _ => ?_))
  ·intro y0 y1 y2 y3 y4 y5 y6 y7 y8 y9
   unfold spec_l15Far.j3
   repeat' (first | (with_reducible first | exact ih0 _ _ _ _ _ _ | exact ih1 _ _ _ _ _ | exact ih2 _ _ _ _ _ _ _ _ | exact ih3 _ _ _ _ _ _ _ _ _ _ | exact LeO.refl _ | exact LeO.none _ | refine LeO.ite ?_ ?_ | refine LeO.bind ?_ (fun _ => ?_)) | exact ih0 _ _ _ _ _ _ | exact ih1 _ _ _ _ _ | exact ih2 _ _ _ _ _ _ _ _ | exact ih3 _ _ _ _ _ _ _ _ _ _ | exact LeO.none _ | refine LeO.ite ?_ ?_ | refine LeO.bind ?_ (fun _ => ?_))
theorem spec_l15Far.mono : ∀ a0 a1 a2 a3 k, LeO (spec_l15Far.f k a0 a1 a2 a3) (spec_l15Far.f (k + 1) a0 a1 a2 a3) := by
 intro a0 a1 a2 a3 k
 obtain ⟨ih0, ih1, ih2, ih3⟩ := spec_l15Far.mono_l k
 unfold spec_l15Far.f
 repeat' (first | (with_reducible first | exact ih0 _ _ _ _ _ _ | exact ih1 _ _ _ _ _ | exact ih2 _ _ _ _ _ _ _ _ | exact ih3 _ _ _ _ _ _ _ _ _ _ | exact LeO.refl _ | exact LeO.none _ | refine LeO.ite ?_ ?_ | refine LeO.bind ?_ (fun _ => ?_)) | exact ih0 _ _ _ _ _ _ | exact ih1 _ _ _ _ _ | exact ih2 _ _ _ _ _ _ _ _ | exact ih3 _ _ _ _ _ _ _ _ _ _ | exact LeO.none _ | refine LeO.ite ?_ ?_ | refine LeO.bind ?_ (fun _ => ?_))
set_option maxHeartbeats 8000000 in
set_option maxRecDepth 100000 in
theorem spec_l15Far.calls (k : Nat) (a0_0 : Int) (A0_1 : Option Addr) (c0_1 : Nat) (l0_1 : List (List Int)) (A0_2 : Option Addr) (c0_2 : Nat) (l0_2 : List Int) (a1 : Int) (r : List Int) (w : World) (hr0_1 : Kd.C (Kd.slice 3 (Kd.int .i64)) w A0_1 l0_1.length l0_1) (hc0_1 : l0_1.length ≤ c0_1) (hr0_2 : Kd.C (Kd.int .i64) w A0_2 l0_2.length l0_2) (hc0_2 : l0_2.length ≤ c0_2) (h : spec_l15Far.f k a0_0 l0_1 l0_2 a1 = some r) :
  Calls Try.prog 106 #[.agg #[.int .i64 a0_0, .slice A0_1 l0_1.length c0_1, .slice A0_2 l0_2.length c0_2], .int .i64 a1] w fun e w' => ∃ v0_ : Value, e = .returned (v0_) ∧ Kd.R (Kd.int .i64) 3 w' w.heap.size (fun _ => True) v0_ r ∧ Below w.heap.size w w' := by
 have hu38 := Try.underlying38
 have HR0_1 := Aside0.mk hr0_1; have HC0_1 := Aside0.mk hc0_1; clear hr0_1 hc0_1; have HR0_2 := Aside0.mk hr0_2; have HC0_2 := Aside0.mk hc0_2; clear hr0_2 hc0_2
 have HB := Aside0.mk (Below.refl w.heap.size w)
 have H : (spec_l15Far.l0 k a1 ([] : List Int) 0 a0_0 l0_1 l0_2) = some r := h
 clear h
 have H' := Aside0.mk H
 clear H
 go_enter Try.func106, Try.ntmps106
 go_wp2_with (first | ((with_reducible refine gate_dst (N := 2) rfl ?_); refine boxev 2 #[.int .i64 a0_0, .slice A0_1 l0_1.length c0_1, .slice A0_2 l0_2.length c0_2] 38 ?_; intro gb121 hg w3 hbox hb; have BK121 := ak (hbox); have GW121 := ak (hgl hg (belowd HB)); have GE121 := ak (hgl hg (belowd HB)); replace HB := ak (below_step (belowd HB) hb); clear hb hbox hg))
 go_loopg [5, 6] k (fun kq v5 v6 w' => ∃ (x5_1 : List Int) (x6_1 : Int), v6 = .int .i64 x6_1 ∧ Aside0 (spec_l15Far.l0 kq a1 x5_1 x6_1 a0_0 l0_1 l0_2 = some r) ∧ Aside0 (kq ≤ k) ∧ Aside0 (Kd.R (Kd.int .i64) 3 w' w.heap.size (fun _ => True) v5 x5_1) ∧ Aside0 (w'.heap[gb121]? = some (.cells #[.int .i64 a0_0, (.slice A0_1 l0_1.length c0_1), (.slice A0_2 l0_2.length c0_2)] 38 (0, 0))) ∧ Aside0 (Below w.heap.size w w'))
 case atStart => exact ⟨(([] : List Int)), (0), er, H', ⟨Nat.le_refl _⟩, ⟨by first | exact Kd.R_nil _ _ _ _ _ | exact Kd.N_nil _ _ _ _ _ | exact Kd.V_nil _ _ _ _ _ | exact Kd.Q_nil _ _ _ _ _ | exact Kd.S_nil _ _ _ _ _⟩, ⟨blkd BK121⟩, ⟨belowg1 HB GE121⟩⟩
 case round =>
  clear H'
  obtain ⟨x5_1, x6_1, rfl, HA, HK1, HO_5, BK121, HB⟩ := hrel
  cases gk with
  | zero => exact absurd HA.out (by simp [spec_l15Far.l0])
  | succ k1 =>
   have H := HA.out; clear HA
   simp only [spec_l15Far.l0] at H
   by_cases c4 : x6_1 < a0_0
   ·rw [if_pos c4] at H
    have c4b0 : decide (x6_1 < a0_0) = true := decide_eq_true c4
    clear c4; replace H := ifS H; obtain ⟨c5, H⟩ := H; have LMc5 := Aside0.mk c5; clear c5
    obtain ⟨y122, hy_⟩ : ∃ y_ : List Int, y_ = (x5_1 ++ [(-1)]) := ⟨_, rfl⟩
    replace H : (spec_l15Far.l0 k1 a1 y122 (wrap64 (x6_1 + 1)) a0_0 l0_1 l0_2) = some r := yH
    have Ny122 := ak hy_; clear hy_
    have H' := Aside0.mk H
    clear H; obtain ⟨hcz6_0, hcz6_1, hcz6_2, hfz6_0, hfz6_1, hfz6_2⟩ := box3 BK121
    go_wp2_with (first | ((with_reducible refine gate_builtin (b := .append) (xs := #[.tmp 16, .tmp 17]) rfl ?_); at_builtin; refine Kd.R_append (Kd.int .i64) (w0 := w) w.heap.size rfl (.tmp 16) (.tmp 17) 22 3 (.int .i64 0) 8 rfl Try.underlying22 info3 rfl (by decide) (by omega) u5 x5_1 (-1) [.int .i64 (-1)] (fun _ => True) (fun _ => False) rfl rfl ?aP (fun _ hk => hk.elim) ?aF ?aO ?aB ?aS ?aL ?_; (case aP => exact rfl); (case aB => exact (belowg1 HB GE121)); (case aF => exact (fun _ _ => trivial)); (case aO => exact (rdl HO_5)); (case aS => exact (below_size (belowg1 HB GE121))); (case aL => have := LMc5.out; omega); intro v123 w7 ho hb hg hat; rw [← Ny122.out] at ho; replace BK121 := ak (blk_grown (blkd BK121) hg (Kd.R_ne HO_5.out BK121.out (by decide))); replace HB := ak (hb); have HO124 := ak (ho); clear HO_5; clear ho hb hg hat))
    go_roundg k1
    case measure => have := HK1.out; omega
    case rel => exact ⟨(y122), (wrap64 (x6_1 + 1)), er, H', ⟨by have := HK1.out; omega⟩, ⟨rdl HO124⟩, ⟨blkd BK121⟩, ⟨belowg1 HB GE121⟩⟩
   ·rw [if_neg c4] at H
    have c4b0 : decide (x6_1 < a0_0) = false := decide_eq_false c4
    clear c4; replace H := ifS H; obtain ⟨c8, H⟩ := H; have c8b0 := decide_eq_true c8; clear c8; replace H := ifS H; obtain ⟨c9, H⟩ := H; have c9b0 := decide_eq_true c9; clear c9
    obtain ⟨y125, hy_⟩ : ∃ y_ : List Int, y_ = (x5_1.set (a1 : Int).toNat 0) := ⟨_, rfl⟩
    replace H : (spec_l15Far.l1 k1 y125 0 a0_0 l0_1 l0_2) = some r := yH
    have Ny125 := ak hy_; clear hy_
    have H' := Aside0.mk H
    clear H; obtain ⟨hcz11_0, hcz11_1, hcz11_2, hfz11_0, hfz11_1, hfz11_2⟩ := box3 BK121
    have p10 : 0 ≤ (a1 : Int) := da
    have q10 : (a1 : Int) < ((x5_1.length : Int) : Int) := da
    obtain ⟨go10, co10, eo10, gb10, gl10, cl10, HG10⟩ := Kd.R_form HO_5.out (by omega)
    (first | cases eo10 | (injection eo10 with ea_ en_ ec_; (first | subst ea_ | (injection ea_ with ea_; subst ea_)); subst ec_; clear en_))
    have GB10 := Aside0.mk gb10; have GG10 := Aside0.mk HG10; clear gb10 gl10 HG10
    obtain ⟨hx10_0, hf10_0⟩ := Kd.R_celln 0 HO_5.out (a1 : Int) p10 q10
    replace p10 := eq_true p10; replace q10 := eq_true q10
    have HP12 := Kd.R_putg HO_5.out (a1 : Int) 0
    go_wp2_with (first | ((with_reducible refine gate_store (t := 3) (p := 21) rfl ?_); refine store_event (t := 3) (p := 21) (v := ?vo_w13) (w1 := (wr.setCell ⟨go10, (a1 : Int).toNat, none⟩ (.int .i64 0))) ?hg ?ho ?hn ?hr ?_; (case ho => rfl); (case hg => rfl); (case hn => rfl); (case hr => first | (go_simp; done) | (go_simp; rfl)); intro w13 hw; have hg : wr.grownBy w13 (some go10) := (by rw [hw]; exact HP12.2); have hp_ : Kd.R (Kd.int .i64) 3 w13 w.heap.size (fun _ => True) (.slice (some ⟨go10, 0, none⟩) x5_1.length co10) y125 := (by rw [hw, Ny125.out]; exact HP12.1); clear HP12; replace BK121 := ak (blk_grown (blkd BK121) hg (Kd.R_ne HO_5.out BK121.out (by decide))); replace HO_5 := ak (hp_); replace HB := ak ((by rw [hw]; exact below_set (HB.out) GB10.out : Below w.heap.size w w13)); clear hg hw hp_))
    go_loopg [7] k1 (fun kq v7 w' => ∃ (x5_2 : List Int) (x7_2 : Int), v7 = .int .i64 x7_2 ∧ Aside0 (spec_l15Far.l1 kq x5_2 x7_2 a0_0 l0_1 l0_2 = some r) ∧ Aside0 (kq ≤ k1) ∧ Aside0 (Kd.R (Kd.int .i64) 3 w' w.heap.size (fun _ => True) (.slice (some ⟨go10, 0, none⟩) x5_1.length co10) x5_2) ∧ Aside0 (w'.heap[gb121]? = some (.cells #[.int .i64 a0_0, (.slice A0_1 l0_1.length c0_1), (.slice A0_2 l0_2.length c0_2)] 38 (0, 0))) ∧ Aside0 (Below w.heap.size w w'))
    case atStart => exact ⟨(y125), (0), er, H', ⟨Nat.le_refl _⟩, ⟨rdl HO_5⟩, ⟨blkd BK121⟩, ⟨belowg1 HB GE121⟩⟩
    case round =>
     clear H'
     (try clear c4b0); (try clear c8b0); (try clear c9b0); (try clear p10); (try clear q10); (try clear hcz11_0); (try clear hcz11_1); (try clear hcz11_2); (try clear hfz11_0); (try clear hfz11_1); (try clear hfz11_2); (try clear hx10_0)
     obtain ⟨x5_2, x7_2, rfl, HA, HK2, HO_5, BK121, HB⟩ := hrel
     have hl5_2 := (Kd.R_reads' HO_5.out).1
     rw [hl5_2] at HO_5
     (try simp only [hl5_2])
     (try simp only [hl5_2] at BK121)
     cases gk with
     | zero => exact absurd HA.out (by simp [spec_l15Far.l1])
     | succ k2 =>
      have H := HA.out; clear HA
      simp only [spec_l15Far.l1] at H
      by_cases c14 : x7_2 < a0_0
      ·rw [if_pos c14] at H
       have c14b0 : decide (x7_2 < a0_0) = true := decide_eq_true c14
       clear c14
       have H' := Aside0.mk H
       clear H; obtain ⟨hcz15_0, hcz15_1, hcz15_2, hfz15_0, hfz15_1, hfz15_2⟩ := box3 BK121; go_wp2
       go_loopg [31] k2 (fun kq v31 w' => ∃ (x5_3 : List Int) (x31_3 : Int), v31 = .int .i64 x31_3 ∧ Aside0 (spec_l15Far.l2 kq x5_3 x7_2 l0_1 (l0_1.length : Int) x31_3 a0_0 l0_1 l0_2 = some r) ∧ Aside0 (kq ≤ k2) ∧ Aside0 (Kd.R (Kd.int .i64) 3 w' w.heap.size (fun _ => True) (.slice (some ⟨go10, 0, none⟩) x5_2.length co10) x5_3) ∧ Aside0 (w'.heap[gb121]? = some (.cells #[.int .i64 a0_0, (.slice A0_1 l0_1.length c0_1), (.slice A0_2 l0_2.length c0_2)] 38 (0, 0))) ∧ Aside0 (Below w.heap.size w w'))
       case atStart => exact ⟨(x5_2), (0), er, H', ⟨Nat.le_refl _⟩, ⟨by (try simp only [hl5_2]); (with_reducible repeat (first | apply Kd.R_alloc | apply Kd.R_drewN | apply Kd.R_drew)); exact HO_5.out⟩, ⟨by (try simp only [hl5_2]); (with_reducible repeat (first | refine blk_drewN ?_ _ | refine blk_drew ?_ | refine blk_alloc ?_ _)); exact BK121.out⟩, ⟨belowg1 HB GE121⟩⟩
       case round =>
        clear H'
        (try clear c14b0); (try clear hcz15_0); (try clear hcz15_1); (try clear hcz15_2); (try clear hfz15_0); (try clear hfz15_1); (try clear hfz15_2)
        obtain ⟨x5_3, x31_3, rfl, HA, HK3, HO_5, BK121, HB⟩ := hrel
        have hl5_3 := (Kd.R_reads' HO_5.out).1
        rw [hl5_3] at HO_5
        (try simp only [hl5_3])
        (try simp only [hl5_3] at BK121)
        cases gk with
        | zero => exact absurd HA.out (by simp [spec_l15Far.l2])
        | succ k3 =>
         have H := HA.out; clear HA
         simp only [spec_l15Far.l2] at H
         by_cases c16 : x31_3 < (l0_1.length : Int)
         ·rw [if_pos c16] at H
          have c16b0 : decide (x31_3 < (l0_1.length : Int)) = true := decide_eq_true c16
          clear c16; replace H := ifS H; obtain ⟨c17, H⟩ := H; have c17b0 := decide_eq_true c17; clear c17; replace H := ifS H; obtain ⟨c18, H⟩ := H; have c18b0 := decide_eq_true c18; clear c18; have HC19 := Aside0.mk H; clear H
          have p126 : 0 ≤ (x31_3 : Int) := da
          have q126 : x31_3 < (l0_1.length : Int) := da
          obtain ⟨ad126, A126_0, c126_0, e126, hx126_0, hl126_0, hi126_0⟩ := at_L1 HR0_1.out x31_3 p126 q126
          cases e126
          replace hx126_0 := (HB.out.cell (World.block_lt_of_cell? w _ hx126_0)).trans hx126_0
          have HR126_0 := Aside0.mk hi126_0; have HC126_0 := Aside0.mk hl126_0; clear hi126_0 hl126_0; replace p126 := eq_true p126; replace q126 := eq_true q126
          go_upto_region 13 with (fail)
          go_cut [51] (fun v51 wc => ∃ (kq : Nat) (x51_18 : Bool), v51 = .bool x51_18 ∧ Aside0 (spec_l15Far.j3 kq x5_3 x7_2 (rd_L1 l0_1 x31_3) l0_1 (l0_1.length : Int) x31_3 x51_18 a0_0 l0_1 l0_2 = some r) ∧ Aside0 (kq ≤ k3) ∧ Aside0 (Kd.R (Kd.int .i64) 3 wc w.heap.size (fun _ => True) (.slice (some ⟨go10, 0, none⟩) x5_3.length co10) x5_3) ∧ Aside0 (wc.heap[gb121]? = some (.cells #[.int .i64 a0_0, (.slice (some ad126) l0_1.length c0_1), (.slice A0_2 l0_2.length c0_2)] 38 (0, 0))) ∧ Aside0 (Below w.heap.size w wc))
          case first =>
           have H := HC19.out; clear HC19; replace H := ifS H; obtain ⟨c20, H⟩ := H; have c20b0 := decide_eq_true c20
           have c20b1 : decide (0 < (rd_L1 l0_1 x31_3).length) = true := decide_eq_true (by omega)
           clear c20
           (first | rw [c20b0] | (simp only [i64_w, i32_w]; rw [c20b0]) | skip)
           replace H := ifS H; obtain ⟨c21, H⟩ := H; have c21b0 := decide_eq_true c21; clear c21; replace H := ifS H; obtain ⟨c22, H⟩ := H; have c22b0 := decide_eq_true c22; clear c22
           by_cases c23 : (rd x5_3 (rd (rd_L1 l0_1 x31_3) 0)) = x7_2
           ·rw [if_pos c23] at H
            have c23b0 : ((rd x5_3 (rd (rd_L1 l0_1 x31_3) 0)) == x7_2) = true := beq_iff_eq.mpr c23
            have c23b1 : ((rd x5_3 (rd (rd_L1 l0_1 x31_3) 0)) != x7_2) = false := bne_eq_false_iff_eq.mpr c23
            clear c23; replace H := ifS H; obtain ⟨c24, H⟩ := H; have c24b0 := decide_eq_true c24
            have c24b1 : decide (1 < (rd_L1 l0_1 x31_3).length) = true := decide_eq_true (by omega)
            clear c24; replace H := ifS H; obtain ⟨c25, H⟩ := H; have c25b0 := decide_eq_true c25; clear c25; replace H := ifS H; obtain ⟨c26, H⟩ := H; have c26b0 := decide_eq_true c26; clear c26
            have H' := Aside0.mk H
            clear H
            have p127 : 0 ≤ (0 : Int) := (by omega)
            have q127 : 0 < ((rd_L1 l0_1 x31_3).length : Int) := da
            obtain ⟨ad127, e127, hx127_0⟩ := Kd.at_int HR126_0.out 0 p127 q127
            cases e127
            have qi127 : (0 < (rd_L1 l0_1 x31_3).length) = True := eq_true (by omega)
            (try rw [show ((0 : Int)).toNat = 0 from rfl] at hx127_0)
            (try rw [Addr.add_zero'] at hx127_0)
            replace hx127_0 := (HB.out.cell (World.block_lt_of_cell? w _ hx127_0)).trans hx127_0
            replace p127 := eq_true p127; replace q127 := eq_true q127
            have p128 : 0 ≤ ((rd (rd_L1 l0_1 x31_3) 0) : Int) := da
            have q128 : (rd (rd_L1 l0_1 x31_3) 0) < (x5_3.length : Int) := da
            obtain ⟨ad128, e128, hx128_0⟩ := Kd.at_int (Kd.R_reads' HO_5.out).2.2 (rd (rd_L1 l0_1 x31_3) 0) p128 q128
            obtain rfl : (⟨go10, 0, none⟩ : Addr) = ad128 := (by injection e128)
            (first | simp only [add_plain] at hx128_0 | simp only [add_at] at hx128_0 | simp only [Addr.add, Nat.zero_add] at hx128_0 | skip)
            replace p128 := eq_true p128; replace q128 := eq_true q128
            have p129 : 0 ≤ (1 : Int) := (by omega)
            have q129 : 1 < ((rd_L1 l0_1 x31_3).length : Int) := da
            obtain ⟨ad129, e129, hx129_0⟩ := Kd.at_int HR126_0.out 1 p129 q129
            obtain rfl : ad127 = ad129 := (by injection e129)
            (try simp only [show (1 : Int).toNat = 1 from rfl, Nat.reduceMul, Nat.reduceEqDiff, Go.Addr.add, ↓reduceIte] at hx129_0)
            have qi129 : (1 < (rd_L1 l0_1 x31_3).length) = True := eq_true (by omega)
            (try rw [show ((1 : Int)).toNat = 1 from rfl] at hx129_0)
            replace hx129_0 := (HB.out.cell (World.block_lt_of_cell? w _ hx129_0)).trans hx129_0
            replace p129 := eq_true p129; replace q129 := eq_true q129
            have p130 : 0 ≤ ((rd (rd_L1 l0_1 x31_3) 1) : Int) := da
            have q130 : (rd (rd_L1 l0_1 x31_3) 1) < (x5_3.length : Int) := da
            obtain ⟨ad130, e130, hx130_0⟩ := Kd.at_int (Kd.R_reads' HO_5.out).2.2 (rd (rd_L1 l0_1 x31_3) 1) p130 q130
            obtain rfl : (⟨go10, 0, none⟩ : Addr) = ad130 := (by injection e130)
            (first | simp only [add_plain] at hx130_0 | simp only [add_at] at hx130_0 | simp only [Addr.add, Nat.zero_add] at hx130_0 | skip)
            replace p130 := eq_true p130; replace q130 := eq_true q130; go_wp2
            go_meet
            case rel => exact ⟨_, (decide ((rd x5_3 (rd (rd_L1 l0_1 x31_3) 1)) < 0)), er, H', ⟨by have := HK1.out; have := HK2.out; have := HK3.out; first | omega | exact Nat.le_refl _⟩, ⟨by (try simp only [hl5_2]); (try simp only [hl5_3]); (with_reducible repeat (first | apply Kd.R_alloc | apply Kd.R_drewN | apply Kd.R_drew)); exact HO_5.out⟩, ⟨by (try simp only [hl5_2]); (try simp only [hl5_3]); (with_reducible repeat (first | refine blk_drewN ?_ _ | refine blk_drew ?_ | refine blk_alloc ?_ _)); exact BK121.out⟩, ⟨belowg1 HB GE121⟩⟩
           ·rw [if_neg c23] at H
            have c23b0 : ((rd x5_3 (rd (rd_L1 l0_1 x31_3) 0)) == x7_2) = false := beq_eq_false_iff_ne.mpr c23
            have c23b1 : ((rd x5_3 (rd (rd_L1 l0_1 x31_3) 0)) != x7_2) = true := bne_iff_ne.mpr c23
            have H' := Aside0.mk H
            clear H
            have p127 : 0 ≤ (0 : Int) := (by omega)
            have q127 : 0 < ((rd_L1 l0_1 x31_3).length : Int) := da
            obtain ⟨ad127, e127, hx127_0⟩ := Kd.at_int HR126_0.out 0 p127 q127
            cases e127
            have qi127 : (0 < (rd_L1 l0_1 x31_3).length) = True := eq_true (by omega)
            (try rw [show ((0 : Int)).toNat = 0 from rfl] at hx127_0)
            (try rw [Addr.add_zero'] at hx127_0)
            replace hx127_0 := (HB.out.cell (World.block_lt_of_cell? w _ hx127_0)).trans hx127_0
            replace p127 := eq_true p127; replace q127 := eq_true q127
            have p128 : 0 ≤ ((rd (rd_L1 l0_1 x31_3) 0) : Int) := da
            have q128 : (rd (rd_L1 l0_1 x31_3) 0) < (x5_3.length : Int) := da
            obtain ⟨ad128, e128, hx128_0⟩ := Kd.at_int (Kd.R_reads' HO_5.out).2.2 (rd (rd_L1 l0_1 x31_3) 0) p128 q128
            obtain rfl : (⟨go10, 0, none⟩ : Addr) = ad128 := (by injection e128)
            (first | simp only [add_plain] at hx128_0 | simp only [add_at] at hx128_0 | simp only [Addr.add, Nat.zero_add] at hx128_0 | skip)
            replace p128 := eq_true p128; replace q128 := eq_true q128; go_wp2
            go_meet
            case rel => exact ⟨_, (false), er, H', ⟨by have := HK1.out; have := HK2.out; have := HK3.out; first | omega | exact Nat.le_refl _⟩, ⟨by (try simp only [hl5_2]); (try simp only [hl5_3]); (with_reducible repeat (first | apply Kd.R_alloc | apply Kd.R_drewN | apply Kd.R_drew)); exact HO_5.out⟩, ⟨by (try simp only [hl5_2]); (try simp only [hl5_3]); (with_reducible repeat (first | refine blk_drewN ?_ _ | refine blk_drew ?_ | refine blk_alloc ?_ _)); exact BK121.out⟩, ⟨belowg1 HB GE121⟩⟩
          case rest =>
           clear HC19; (try clear c16b0); (try clear c17b0); (try clear c18b0); (try clear hx126_0); (try clear p126); (try clear q126)
           obtain ⟨kq, x51_18, rfl, HA, HJ18, HO_5, BK121, HB⟩ := hcut
           cases kq with
           | zero => exact absurd HA.out (by simp [spec_l15Far.j3])
           | succ kj18 =>
            have H := HA.out; clear HA
            simp only [spec_l15Far.j3] at H
            by_cases c27 : x51_18 = true
            ·subst c27
             have H1 : (if 1 < ((rd_L1 l0_1 x31_3).length : Int) then (if 0 ≤ (rd (rd_L1 l0_1 x31_3) 1) then (if (rd (rd_L1 l0_1 x31_3) 1) < (x5_3.length : Int) then ((some (x5_3.set ((rd (rd_L1 l0_1 x31_3) 1) : Int).toNat (wrap64 (x7_2 + 1)) : List Int)).bind fun y132 => (if (rd y132 (rd (rd_L1 l0_1 x31_3) 1)) = x7_2 then (if 0 < ((rd_L1 l0_1 x31_3).length : Int) then (if 0 ≤ (rd (rd_L1 l0_1 x31_3) 0) then (if (rd (rd_L1 l0_1 x31_3) 0) < (x5_3.length : Int) then (if (rd y132 (rd (rd_L1 l0_1 x31_3) 0)) < 0 then (spec_l15Far.l2 kj18 (y132.set ((rd (rd_L1 l0_1 x31_3) 0) : Int).toNat (wrap64 (x7_2 + 1))) x7_2 l0_1 (l0_1.length : Int) (wrap64 (x31_3 + 1)) a0_0 l0_1 l0_2) else (spec_l15Far.l2 kj18 y132 x7_2 l0_1 (l0_1.length : Int) (wrap64 (x31_3 + 1)) a0_0 l0_1 l0_2)) else (none)) else (none)) else (none)) else (spec_l15Far.l2 kj18 y132 x7_2 l0_1 (l0_1.length : Int) (wrap64 (x31_3 + 1)) a0_0 l0_1 l0_2))) else (none)) else (none)) else (none)) = some r := by rw [if_pos rfl] at H; exact H
             clear H
             have H := H1
             clear H1; replace H := ifS H; obtain ⟨c28, H⟩ := H; have c28b0 := decide_eq_true c28
             have c28b1 : decide (1 < (rd_L1 l0_1 x31_3).length) = true := decide_eq_true (by omega)
             clear c28; replace H := ifS H; obtain ⟨c29, H⟩ := H; have c29b0 := decide_eq_true c29; clear c29; replace H := ifS H; obtain ⟨c30, H⟩ := H; have c30b0 := decide_eq_true c30; clear c30
             obtain ⟨y132, hy_⟩ : ∃ y_ : List Int, y_ = (x5_3.set ((rd (rd_L1 l0_1 x31_3) 1) : Int).toNat (wrap64 (x7_2 + 1))) := ⟨_, rfl⟩
             replace H : (if (rd y132 (rd (rd_L1 l0_1 x31_3) 1)) = x7_2 then (if 0 < ((rd_L1 l0_1 x31_3).length : Int) then (if 0 ≤ (rd (rd_L1 l0_1 x31_3) 0) then (if (rd (rd_L1 l0_1 x31_3) 0) < (x5_3.length : Int) then (if (rd y132 (rd (rd_L1 l0_1 x31_3) 0)) < 0 then (spec_l15Far.l2 kj18 (y132.set ((rd (rd_L1 l0_1 x31_3) 0) : Int).toNat (wrap64 (x7_2 + 1))) x7_2 l0_1 (l0_1.length : Int) (wrap64 (x31_3 + 1)) a0_0 l0_1 l0_2) else (spec_l15Far.l2 kj18 y132 x7_2 l0_1 (l0_1.length : Int) (wrap64 (x31_3 + 1)) a0_0 l0_1 l0_2)) else (none)) else (none)) else (none)) else (spec_l15Far.l2 kj18 y132 x7_2 l0_1 (l0_1.length : Int) (wrap64 (x31_3 + 1)) a0_0 l0_1 l0_2)) = some r := yH
             have Ny132 := ak hy_; clear hy_
             by_cases c32 : (rd y132 (rd (rd_L1 l0_1 x31_3) 1)) = x7_2
             ·rw [if_pos c32] at H
              have c32b0 : ((rd y132 (rd (rd_L1 l0_1 x31_3) 1)) == x7_2) = true := beq_iff_eq.mpr c32
              have c32b1 : ((rd y132 (rd (rd_L1 l0_1 x31_3) 1)) != x7_2) = false := bne_eq_false_iff_eq.mpr c32
              clear c32; replace H := ifS H; obtain ⟨c33, H⟩ := H; have c33b0 := decide_eq_true c33
              have c33b1 : decide (0 < (rd_L1 l0_1 x31_3).length) = true := decide_eq_true (by omega)
              clear c33; replace H := ifS H; obtain ⟨c34, H⟩ := H; have c34b0 := decide_eq_true c34; clear c34; replace H := ifS H; obtain ⟨c35, H⟩ := H; have c35b0 := decide_eq_true c35; clear c35
              by_cases c36 : (rd y132 (rd (rd_L1 l0_1 x31_3) 0)) < 0
              ·rw [if_pos c36] at H
               have c36b0 : decide ((rd y132 (rd (rd_L1 l0_1 x31_3) 0)) < 0) = true := decide_eq_true c36
               clear c36
               obtain ⟨y138, hy_⟩ : ∃ y_ : List Int, y_ = (y132.set ((rd (rd_L1 l0_1 x31_3) 0) : Int).toNat (wrap64 (x7_2 + 1))) := ⟨_, rfl⟩
               replace H : (spec_l15Far.l2 kj18 y138 x7_2 l0_1 (l0_1.length : Int) (wrap64 (x31_3 + 1)) a0_0 l0_1 l0_2) = some r := yH
               have Ny138 := ak hy_; clear hy_
               have H' := Aside0.mk H
               clear H
               have p131 : 0 ≤ (1 : Int) := (by omega)
               have q131 : 1 < ((rd_L1 l0_1 x31_3).length : Int) := da
               obtain ⟨ad131, e131, hx131_0⟩ := Kd.at_int HR126_0.out 1 p131 q131
               cases e131
               (try simp only [show (1 : Int).toNat = 1 from rfl, Nat.reduceMul, Nat.reduceEqDiff, Go.Addr.add, ↓reduceIte] at hx131_0)
               have qi131 : (1 < (rd_L1 l0_1 x31_3).length) = True := eq_true (by omega)
               (try rw [show ((1 : Int)).toNat = 1 from rfl] at hx131_0)
               replace hx131_0 := (HB.out.cell (World.block_lt_of_cell? w _ hx131_0)).trans hx131_0
               replace p131 := eq_true p131; replace q131 := eq_true q131
               have p31 : 0 ≤ ((rd (rd_L1 l0_1 x31_3) 1) : Int) := da
               have q31 : ((rd (rd_L1 l0_1 x31_3) 1) : Int) < ((x5_3.length : Int) : Int) := da
               obtain ⟨hx31_0, hf31_0⟩ := Kd.R_celln 0 HO_5.out ((rd (rd_L1 l0_1 x31_3) 1) : Int) p31 q31
               replace p31 := eq_true p31; replace q31 := eq_true q31
               have HP38 := Kd.R_putg HO_5.out ((rd (rd_L1 l0_1 x31_3) 1) : Int) (wrap64 (x7_2 + 1))
               go_wp2_with (first | ((with_reducible refine gate_store (t := 3) (p := 58) rfl ?_); refine store_event (t := 3) (p := 58) (v := ?vo_w39) (w1 := (wc.setCell ⟨go10, ((rd (rd_L1 l0_1 x31_3) 1) : Int).toNat, none⟩ (.int .i64 (wrap64 (x7_2 + 1))))) ?hg ?ho ?hn ?hr ?_; (case ho => rfl); (case hg => rfl); (case hn => rfl); (case hr => first | (go_simp; done) | (go_simp; rfl)); intro w39 hw; have hg : wc.grownBy w39 (some go10) := (by rw [hw]; exact HP38.2); have hp_ : Kd.R (Kd.int .i64) 3 w39 w.heap.size (fun _ => True) (.slice (some ⟨go10, 0, none⟩) x5_3.length co10) y132 := (by rw [hw, Ny132.out]; exact HP38.1); clear HP38; replace BK121 := ak (blk_grown (blkd BK121) hg (Kd.R_ne HO_5.out BK121.out (by decide))); replace HO_5 := ak (hp_); replace HB := ak ((by rw [hw]; exact below_set (HB.out) GB10.out : Below w.heap.size w w39)); clear hg hw hp_; have p133 : 0 ≤ (1 : Int) := (by omega); have q133 : 1 < ((rd_L1 l0_1 x31_3).length : Int) := da; obtain ⟨ad133, e133, hx133_0⟩ := Kd.at_int HR126_0.out 1 p133 q133; obtain rfl : ad131 = ad133 := (by injection e133); (try simp only [show (1 : Int).toNat = 1 from rfl, Nat.reduceMul, Nat.reduceEqDiff, Go.Addr.add, ↓reduceIte] at hx133_0); have qi133 : (1 < (rd_L1 l0_1 x31_3).length) = True := eq_true (by omega); (try rw [show ((1 : Int)).toNat = 1 from rfl] at hx133_0); replace hx133_0 := (HB.out.cell (World.block_lt_of_cell? w _ hx133_0)).trans hx133_0; replace p133 := eq_true p133; replace q133 := eq_true q133; have p134 : 0 ≤ ((rd (rd_L1 l0_1 x31_3) 1) : Int) := da; have q134 : (rd (rd_L1 l0_1 x31_3) 1) < (y132.length : Int) := (by have h_ : ((rd (rd_L1 l0_1 x31_3) 1) : Int) < ((x5_3.length : Int) : Int) := da; first | (have e_ := (Kd.R_reads' HO_5.out).1; omega) | simpa only [Ny132.out, List.length_set] using h_); have ql134 : (((rd (rd_L1 l0_1 x31_3) 1) : Int) < ((x5_3.length : Int) : Int)) = True := eq_true (da); obtain ⟨ad134, e134, hx134_0⟩ := Kd.at_int (Kd.R_reads' HO_5.out).2.2 (rd (rd_L1 l0_1 x31_3) 1) p134 q134; obtain rfl : (⟨go10, 0, none⟩ : Addr) = ad134 := (by injection e134); (first | simp only [add_plain] at hx134_0 | simp only [add_at] at hx134_0 | simp only [Addr.add, Nat.zero_add] at hx134_0 | skip); replace p134 := eq_true p134; replace q134 := eq_true q134; have p135 : 0 ≤ (0 : Int) := (by omega); have q135 : 0 < ((rd_L1 l0_1 x31_3).length : Int) := da; obtain ⟨ad135, e135, hx135_0⟩ := Kd.at_int HR126_0.out 0 p135 q135; obtain rfl : ad131 = ad135 := (by injection e135); have qi135 : (0 < (rd_L1 l0_1 x31_3).length) = True := eq_true (by omega); (try rw [show ((0 : Int)).toNat = 0 from rfl] at hx135_0); (try rw [Addr.add_zero'] at hx135_0); replace hx135_0 := (HB.out.cell (World.block_lt_of_cell? w _ hx135_0)).trans hx135_0; replace p135 := eq_true p135; replace q135 := eq_true q135; have p136 : 0 ≤ ((rd (rd_L1 l0_1 x31_3) 0) : Int) := da; have q136 : (rd (rd_L1 l0_1 x31_3) 0) < (y132.length : Int) := (by have h_ : ((rd (rd_L1 l0_1 x31_3) 0) : Int) < ((x5_3.length : Int) : Int) := da; first | (have e_ := (Kd.R_reads' HO_5.out).1; omega) | simpa only [Ny132.out, List.length_set] using h_); have ql136 : (((rd (rd_L1 l0_1 x31_3) 0) : Int) < ((x5_3.length : Int) : Int)) = True := eq_true (da); obtain ⟨ad136, e136, hx136_0⟩ := Kd.at_int (Kd.R_reads' HO_5.out).2.2 (rd (rd_L1 l0_1 x31_3) 0) p136 q136; obtain rfl : (⟨go10, 0, none⟩ : Addr) = ad136 := (by injection e136); (first | simp only [add_plain] at hx136_0 | simp only [add_at] at hx136_0 | simp only [Addr.add, Nat.zero_add] at hx136_0 | skip); replace p136 := eq_true p136; replace q136 := eq_true q136; have p137 : 0 ≤ (0 : Int) := (by omega); have q137 : 0 < ((rd_L1 l0_1 x31_3).length : Int) := da; obtain ⟨ad137, e137, hx137_0⟩ := Kd.at_int HR126_0.out 0 p137 q137; obtain rfl : ad131 = ad137 := (by injection e137); have qi137 : (0 < (rd_L1 l0_1 x31_3).length) = True := eq_true (by omega); (try rw [show ((0 : Int)).toNat = 0 from rfl] at hx137_0); (try rw [Addr.add_zero'] at hx137_0); replace hx137_0 := (HB.out.cell (World.block_lt_of_cell? w _ hx137_0)).trans hx137_0; replace p137 := eq_true p137; replace q137 := eq_true q137; have p37 : 0 ≤ ((rd (rd_L1 l0_1 x31_3) 0) : Int) := da; have q37 : ((rd (rd_L1 l0_1 x31_3) 0) : Int) < ((x5_3.length : Int) : Int) := da; obtain ⟨hx37_0, hf37_0⟩ := Kd.R_celln 0 HO_5.out ((rd (rd_L1 l0_1 x31_3) 0) : Int) p37 q37; replace p37 := eq_true p37; replace q37 := eq_true q37; obtain ⟨hy40_, hz40_⟩ := Kd.R_celln 0 HO_5.out ((rd (rd_L1 l0_1 x31_3) 0) : Int) (da) (da); have HP40 := Kd.R_putg HO_5.out ((rd (rd_L1 l0_1 x31_3) 0) : Int) (wrap64 (x7_2 + 1))) | ((with_reducible refine gate_store (t := 3) (p := 82) rfl ?_); refine store_event (t := 3) (p := 82) (v := ?vo_w41) (w1 := (w39.setCell ⟨go10, ((rd (rd_L1 l0_1 x31_3) 0) : Int).toNat, none⟩ (.int .i64 (wrap64 (x7_2 + 1))))) ?hg ?ho ?hn ?hr ?_; (case ho => rfl); (case hg => rfl); (case hn => rfl); (case hr => first | (go_simp; done) | (go_simp; rfl)); intro w41 hw; have hg : w39.grownBy w41 (some go10) := (by rw [hw]; exact HP40.2); have hp_ : Kd.R (Kd.int .i64) 3 w41 w.heap.size (fun _ => True) (.slice (some ⟨go10, 0, none⟩) x5_3.length co10) y138 := (by rw [hw, Ny138.out]; exact HP40.1); clear HP40; replace BK121 := ak (blk_grown (blkd BK121) hg (Kd.R_ne HO_5.out BK121.out (by decide))); replace HO_5 := ak (hp_); replace HB := ak ((by rw [hw]; exact below_set (HB.out) GB10.out : Below w.heap.size w w41)); clear hg hw hp_))
               (try simp only [← hl5_3])
               go_roundg kj18
               case measure => have := HK1.out; have := HK2.out; have := HK3.out; have := HJ18.out; omega
               case rel => exact ⟨(y138), (wrap64 (x31_3 + 1)), er, H', ⟨by have := HK1.out; have := HK2.out; have := HK3.out; have := HJ18.out; omega⟩, ⟨by (try simp only [hl5_2]); (try simp only [hl5_3]); (with_reducible repeat (first | apply Kd.R_alloc | apply Kd.R_drewN | apply Kd.R_drew)); exact HO_5.out⟩, ⟨by (try simp only [hl5_2]); (try simp only [hl5_3]); (with_reducible repeat (first | refine blk_drewN ?_ _ | refine blk_drew ?_ | refine blk_alloc ?_ _)); exact BK121.out⟩, ⟨belowg1 HB GE121⟩⟩
              ·rw [if_neg c36] at H
               have c36b0 : decide ((rd y132 (rd (rd_L1 l0_1 x31_3) 0)) < 0) = false := decide_eq_false c36
               clear c36
               have H' := Aside0.mk H
               clear H
               have p131 : 0 ≤ (1 : Int) := (by omega)
               have q131 : 1 < ((rd_L1 l0_1 x31_3).length : Int) := da
               obtain ⟨ad131, e131, hx131_0⟩ := Kd.at_int HR126_0.out 1 p131 q131
               cases e131
               (try simp only [show (1 : Int).toNat = 1 from rfl, Nat.reduceMul, Nat.reduceEqDiff, Go.Addr.add, ↓reduceIte] at hx131_0)
               have qi131 : (1 < (rd_L1 l0_1 x31_3).length) = True := eq_true (by omega)
               (try rw [show ((1 : Int)).toNat = 1 from rfl] at hx131_0)
               replace hx131_0 := (HB.out.cell (World.block_lt_of_cell? w _ hx131_0)).trans hx131_0
               replace p131 := eq_true p131; replace q131 := eq_true q131
               have p31 : 0 ≤ ((rd (rd_L1 l0_1 x31_3) 1) : Int) := da
               have q31 : ((rd (rd_L1 l0_1 x31_3) 1) : Int) < ((x5_3.length : Int) : Int) := da
               obtain ⟨hx31_0, hf31_0⟩ := Kd.R_celln 0 HO_5.out ((rd (rd_L1 l0_1 x31_3) 1) : Int) p31 q31
               replace p31 := eq_true p31; replace q31 := eq_true q31
               have HP42 := Kd.R_putg HO_5.out ((rd (rd_L1 l0_1 x31_3) 1) : Int) (wrap64 (x7_2 + 1))
               go_wp2_with (first | ((with_reducible refine gate_store (t := 3) (p := 58) rfl ?_); refine store_event (t := 3) (p := 58) (v := ?vo_w43) (w1 := (wc.setCell ⟨go10, ((rd (rd_L1 l0_1 x31_3) 1) : Int).toNat, none⟩ (.int .i64 (wrap64 (x7_2 + 1))))) ?hg ?ho ?hn ?hr ?_; (case ho => rfl); (case hg => rfl); (case hn => rfl); (case hr => first | (go_simp; done) | (go_simp; rfl)); intro w43 hw; have hg : wc.grownBy w43 (some go10) := (by rw [hw]; exact HP42.2); have hp_ : Kd.R (Kd.int .i64) 3 w43 w.heap.size (fun _ => True) (.slice (some ⟨go10, 0, none⟩) x5_3.length co10) y132 := (by rw [hw, Ny132.out]; exact HP42.1); clear HP42; replace BK121 := ak (blk_grown (blkd BK121) hg (Kd.R_ne HO_5.out BK121.out (by decide))); replace HO_5 := ak (hp_); replace HB := ak ((by rw [hw]; exact below_set (HB.out) GB10.out : Below w.heap.size w w43)); clear hg hw hp_; have p133 : 0 ≤ (1 : Int) := (by omega); have q133 : 1 < ((rd_L1 l0_1 x31_3).length : Int) := da; obtain ⟨ad133, e133, hx133_0⟩ := Kd.at_int HR126_0.out 1 p133 q133; obtain rfl : ad131 = ad133 := (by injection e133); (try simp only [show (1 : Int).toNat = 1 from rfl, Nat.reduceMul, Nat.reduceEqDiff, Go.Addr.add, ↓reduceIte] at hx133_0); have qi133 : (1 < (rd_L1 l0_1 x31_3).length) = True := eq_true (by omega); (try rw [show ((1 : Int)).toNat = 1 from rfl] at hx133_0); replace hx133_0 := (HB.out.cell (World.block_lt_of_cell? w _ hx133_0)).trans hx133_0; replace p133 := eq_true p133; replace q133 := eq_true q133; have p134 : 0 ≤ ((rd (rd_L1 l0_1 x31_3) 1) : Int) := da; have q134 : (rd (rd_L1 l0_1 x31_3) 1) < (y132.length : Int) := (by have h_ : ((rd (rd_L1 l0_1 x31_3) 1) : Int) < ((x5_3.length : Int) : Int) := da; first | (have e_ := (Kd.R_reads' HO_5.out).1; omega) | simpa only [Ny132.out, List.length_set] using h_); have ql134 : (((rd (rd_L1 l0_1 x31_3) 1) : Int) < ((x5_3.length : Int) : Int)) = True := eq_true (da); obtain ⟨ad134, e134, hx134_0⟩ := Kd.at_int (Kd.R_reads' HO_5.out).2.2 (rd (rd_L1 l0_1 x31_3) 1) p134 q134; obtain rfl : (⟨go10, 0, none⟩ : Addr) = ad134 := (by injection e134); (first | simp only [add_plain] at hx134_0 | simp only [add_at] at hx134_0 | simp only [Addr.add, Nat.zero_add] at hx134_0 | skip); replace p134 := eq_true p134; replace q134 := eq_true q134; have p135 : 0 ≤ (0 : Int) := (by omega); have q135 : 0 < ((rd_L1 l0_1 x31_3).length : Int) := da; obtain ⟨ad135, e135, hx135_0⟩ := Kd.at_int HR126_0.out 0 p135 q135; obtain rfl : ad131 = ad135 := (by injection e135); have qi135 : (0 < (rd_L1 l0_1 x31_3).length) = True := eq_true (by omega); (try rw [show ((0 : Int)).toNat = 0 from rfl] at hx135_0); (try rw [Addr.add_zero'] at hx135_0); replace hx135_0 := (HB.out.cell (World.block_lt_of_cell? w _ hx135_0)).trans hx135_0; replace p135 := eq_true p135; replace q135 := eq_true q135; have p136 : 0 ≤ ((rd (rd_L1 l0_1 x31_3) 0) : Int) := da; have q136 : (rd (rd_L1 l0_1 x31_3) 0) < (y132.length : Int) := (by have h_ : ((rd (rd_L1 l0_1 x31_3) 0) : Int) < ((x5_3.length : Int) : Int) := da; first | (have e_ := (Kd.R_reads' HO_5.out).1; omega) | simpa only [Ny132.out, List.length_set] using h_); have ql136 : (((rd (rd_L1 l0_1 x31_3) 0) : Int) < ((x5_3.length : Int) : Int)) = True := eq_true (da); obtain ⟨ad136, e136, hx136_0⟩ := Kd.at_int (Kd.R_reads' HO_5.out).2.2 (rd (rd_L1 l0_1 x31_3) 0) p136 q136; obtain rfl : (⟨go10, 0, none⟩ : Addr) = ad136 := (by injection e136); (first | simp only [add_plain] at hx136_0 | simp only [add_at] at hx136_0 | simp only [Addr.add, Nat.zero_add] at hx136_0 | skip); replace p136 := eq_true p136; replace q136 := eq_true q136))
               (try simp only [← hl5_3])
               go_roundg kj18
               case measure => have := HK1.out; have := HK2.out; have := HK3.out; have := HJ18.out; omega
               case rel => exact ⟨(y132), (wrap64 (x31_3 + 1)), er, H', ⟨by have := HK1.out; have := HK2.out; have := HK3.out; have := HJ18.out; omega⟩, ⟨by (try simp only [hl5_2]); (try simp only [hl5_3]); (with_reducible repeat (first | apply Kd.R_alloc | apply Kd.R_drewN | apply Kd.R_drew)); exact HO_5.out⟩, ⟨by (try simp only [hl5_2]); (try simp only [hl5_3]); (with_reducible repeat (first | refine blk_drewN ?_ _ | refine blk_drew ?_ | refine blk_alloc ?_ _)); exact BK121.out⟩, ⟨belowg1 HB GE121⟩⟩
             ·rw [if_neg c32] at H
              have c32b0 : ((rd y132 (rd (rd_L1 l0_1 x31_3) 1)) == x7_2) = false := beq_eq_false_iff_ne.mpr c32
              have c32b1 : ((rd y132 (rd (rd_L1 l0_1 x31_3) 1)) != x7_2) = true := bne_iff_ne.mpr c32
              have H' := Aside0.mk H
              clear H
              have p131 : 0 ≤ (1 : Int) := (by omega)
              have q131 : 1 < ((rd_L1 l0_1 x31_3).length : Int) := da
              obtain ⟨ad131, e131, hx131_0⟩ := Kd.at_int HR126_0.out 1 p131 q131
              cases e131
              (try simp only [show (1 : Int).toNat = 1 from rfl, Nat.reduceMul, Nat.reduceEqDiff, Go.Addr.add, ↓reduceIte] at hx131_0)
              have qi131 : (1 < (rd_L1 l0_1 x31_3).length) = True := eq_true (by omega)
              (try rw [show ((1 : Int)).toNat = 1 from rfl] at hx131_0)
              replace hx131_0 := (HB.out.cell (World.block_lt_of_cell? w _ hx131_0)).trans hx131_0
              replace p131 := eq_true p131; replace q131 := eq_true q131
              have p31 : 0 ≤ ((rd (rd_L1 l0_1 x31_3) 1) : Int) := da
              have q31 : ((rd (rd_L1 l0_1 x31_3) 1) : Int) < ((x5_3.length : Int) : Int) := da
              obtain ⟨hx31_0, hf31_0⟩ := Kd.R_celln 0 HO_5.out ((rd (rd_L1 l0_1 x31_3) 1) : Int) p31 q31
              replace p31 := eq_true p31; replace q31 := eq_true q31
              have HP44 := Kd.R_putg HO_5.out ((rd (rd_L1 l0_1 x31_3) 1) : Int) (wrap64 (x7_2 + 1))
              go_wp2_with (first | ((with_reducible refine gate_store (t := 3) (p := 58) rfl ?_); refine store_event (t := 3) (p := 58) (v := ?vo_w45) (w1 := (wc.setCell ⟨go10, ((rd (rd_L1 l0_1 x31_3) 1) : Int).toNat, none⟩ (.int .i64 (wrap64 (x7_2 + 1))))) ?hg ?ho ?hn ?hr ?_; (case ho => rfl); (case hg => rfl); (case hn => rfl); (case hr => first | (go_simp; done) | (go_simp; rfl)); intro w45 hw; have hg : wc.grownBy w45 (some go10) := (by rw [hw]; exact HP44.2); have hp_ : Kd.R (Kd.int .i64) 3 w45 w.heap.size (fun _ => True) (.slice (some ⟨go10, 0, none⟩) x5_3.length co10) y132 := (by rw [hw, Ny132.out]; exact HP44.1); clear HP44; replace BK121 := ak (blk_grown (blkd BK121) hg (Kd.R_ne HO_5.out BK121.out (by decide))); replace HO_5 := ak (hp_); replace HB := ak ((by rw [hw]; exact below_set (HB.out) GB10.out : Below w.heap.size w w45)); clear hg hw hp_; have p133 : 0 ≤ (1 : Int) := (by omega); have q133 : 1 < ((rd_L1 l0_1 x31_3).length : Int) := da; obtain ⟨ad133, e133, hx133_0⟩ := Kd.at_int HR126_0.out 1 p133 q133; obtain rfl : ad131 = ad133 := (by injection e133); (try simp only [show (1 : Int).toNat = 1 from rfl, Nat.reduceMul, Nat.reduceEqDiff, Go.Addr.add, ↓reduceIte] at hx133_0); have qi133 : (1 < (rd_L1 l0_1 x31_3).length) = True := eq_true (by omega); (try rw [show ((1 : Int)).toNat = 1 from rfl] at hx133_0); replace hx133_0 := (HB.out.cell (World.block_lt_of_cell? w _ hx133_0)).trans hx133_0; replace p133 := eq_true p133; replace q133 := eq_true q133; have p134 : 0 ≤ ((rd (rd_L1 l0_1 x31_3) 1) : Int) := da; have q134 : (rd (rd_L1 l0_1 x31_3) 1) < (y132.length : Int) := (by have h_ : ((rd (rd_L1 l0_1 x31_3) 1) : Int) < ((x5_3.length : Int) : Int) := da; first | (have e_ := (Kd.R_reads' HO_5.out).1; omega) | simpa only [Ny132.out, List.length_set] using h_); have ql134 : (((rd (rd_L1 l0_1 x31_3) 1) : Int) < ((x5_3.length : Int) : Int)) = True := eq_true (da); obtain ⟨ad134, e134, hx134_0⟩ := Kd.at_int (Kd.R_reads' HO_5.out).2.2 (rd (rd_L1 l0_1 x31_3) 1) p134 q134; obtain rfl : (⟨go10, 0, none⟩ : Addr) = ad134 := (by injection e134); (first | simp only [add_plain] at hx134_0 | simp only [add_at] at hx134_0 | simp only [Addr.add, Nat.zero_add] at hx134_0 | skip); replace p134 := eq_true p134; replace q134 := eq_true q134))
              (try simp only [← hl5_3])
              go_roundg kj18
              case measure => have := HK1.out; have := HK2.out; have := HK3.out; have := HJ18.out; omega
              case rel => exact ⟨(y132), (wrap64 (x31_3 + 1)), er, H', ⟨by have := HK1.out; have := HK2.out; have := HK3.out; have := HJ18.out; omega⟩, ⟨by (try simp only [hl5_2]); (try simp only [hl5_3]); (with_reducible repeat (first | apply Kd.R_alloc | apply Kd.R_drewN | apply Kd.R_drew)); exact HO_5.out⟩, ⟨by (try simp only [hl5_2]); (try simp only [hl5_3]); (with_reducible repeat (first | refine blk_drewN ?_ _ | refine blk_drew ?_ | refine blk_alloc ?_ _)); exact BK121.out⟩, ⟨belowg1 HB GE121⟩⟩
            ·replace c27 := Bool.eq_false_iff.mpr c27
             subst c27
             have H1 : (if 1 < ((rd_L1 l0_1 x31_3).length : Int) then (if 0 ≤ (rd (rd_L1 l0_1 x31_3) 1) then (if (rd (rd_L1 l0_1 x31_3) 1) < (x5_3.length : Int) then (if (rd x5_3 (rd (rd_L1 l0_1 x31_3) 1)) = x7_2 then (if 0 < ((rd_L1 l0_1 x31_3).length : Int) then (if 0 ≤ (rd (rd_L1 l0_1 x31_3) 0) then (if (rd (rd_L1 l0_1 x31_3) 0) < (x5_3.length : Int) then (if (rd x5_3 (rd (rd_L1 l0_1 x31_3) 0)) < 0 then (spec_l15Far.l2 kj18 (x5_3.set ((rd (rd_L1 l0_1 x31_3) 0) : Int).toNat (wrap64 (x7_2 + 1))) x7_2 l0_1 (l0_1.length : Int) (wrap64 (x31_3 + 1)) a0_0 l0_1 l0_2) else (spec_l15Far.l2 kj18 x5_3 x7_2 l0_1 (l0_1.length : Int) (wrap64 (x31_3 + 1)) a0_0 l0_1 l0_2)) else (none)) else (none)) else (none)) else (spec_l15Far.l2 kj18 x5_3 x7_2 l0_1 (l0_1.length : Int) (wrap64 (x31_3 + 1)) a0_0 l0_1 l0_2)) else (none)) else (none)) else (none)) = some r := by rw [if_neg (show ¬ (false = true) by decide)] at H; exact H
             clear H
             have H := H1
             clear H1; replace H := ifS H; obtain ⟨c46, H⟩ := H; have c46b0 := decide_eq_true c46
             have c46b1 : decide (1 < (rd_L1 l0_1 x31_3).length) = true := decide_eq_true (by omega)
             clear c46; replace H := ifS H; obtain ⟨c47, H⟩ := H; have c47b0 := decide_eq_true c47; clear c47; replace H := ifS H; obtain ⟨c48, H⟩ := H; have c48b0 := decide_eq_true c48; clear c48
             by_cases c49 : (rd x5_3 (rd (rd_L1 l0_1 x31_3) 1)) = x7_2
             ·rw [if_pos c49] at H
              have c49b0 : ((rd x5_3 (rd (rd_L1 l0_1 x31_3) 1)) == x7_2) = true := beq_iff_eq.mpr c49
              have c49b1 : ((rd x5_3 (rd (rd_L1 l0_1 x31_3) 1)) != x7_2) = false := bne_eq_false_iff_eq.mpr c49
              clear c49; replace H := ifS H; obtain ⟨c50, H⟩ := H; have c50b0 := decide_eq_true c50
              have c50b1 : decide (0 < (rd_L1 l0_1 x31_3).length) = true := decide_eq_true (by omega)
              clear c50; replace H := ifS H; obtain ⟨c51, H⟩ := H; have c51b0 := decide_eq_true c51; clear c51; replace H := ifS H; obtain ⟨c52, H⟩ := H; have c52b0 := decide_eq_true c52; clear c52
              by_cases c53 : (rd x5_3 (rd (rd_L1 l0_1 x31_3) 0)) < 0
              ·rw [if_pos c53] at H
               have c53b0 : decide ((rd x5_3 (rd (rd_L1 l0_1 x31_3) 0)) < 0) = true := decide_eq_true c53
               clear c53
               obtain ⟨y144, hy_⟩ : ∃ y_ : List Int, y_ = (x5_3.set ((rd (rd_L1 l0_1 x31_3) 0) : Int).toNat (wrap64 (x7_2 + 1))) := ⟨_, rfl⟩
               replace H : (spec_l15Far.l2 kj18 y144 x7_2 l0_1 (l0_1.length : Int) (wrap64 (x31_3 + 1)) a0_0 l0_1 l0_2) = some r := yH
               have Ny144 := ak hy_; clear hy_
               have H' := Aside0.mk H
               clear H
               have p139 : 0 ≤ (1 : Int) := (by omega)
               have q139 : 1 < ((rd_L1 l0_1 x31_3).length : Int) := da
               obtain ⟨ad139, e139, hx139_0⟩ := Kd.at_int HR126_0.out 1 p139 q139
               cases e139
               (try simp only [show (1 : Int).toNat = 1 from rfl, Nat.reduceMul, Nat.reduceEqDiff, Go.Addr.add, ↓reduceIte] at hx139_0)
               have qi139 : (1 < (rd_L1 l0_1 x31_3).length) = True := eq_true (by omega)
               (try rw [show ((1 : Int)).toNat = 1 from rfl] at hx139_0)
               replace hx139_0 := (HB.out.cell (World.block_lt_of_cell? w _ hx139_0)).trans hx139_0
               replace p139 := eq_true p139; replace q139 := eq_true q139
               have p140 : 0 ≤ ((rd (rd_L1 l0_1 x31_3) 1) : Int) := da
               have q140 : (rd (rd_L1 l0_1 x31_3) 1) < (x5_3.length : Int) := da
               obtain ⟨ad140, e140, hx140_0⟩ := Kd.at_int (Kd.R_reads' HO_5.out).2.2 (rd (rd_L1 l0_1 x31_3) 1) p140 q140
               obtain rfl : (⟨go10, 0, none⟩ : Addr) = ad140 := (by injection e140)
               (first | simp only [add_plain] at hx140_0 | simp only [add_at] at hx140_0 | simp only [Addr.add, Nat.zero_add] at hx140_0 | skip)
               replace p140 := eq_true p140; replace q140 := eq_true q140
               have p141 : 0 ≤ (0 : Int) := (by omega)
               have q141 : 0 < ((rd_L1 l0_1 x31_3).length : Int) := da
               obtain ⟨ad141, e141, hx141_0⟩ := Kd.at_int HR126_0.out 0 p141 q141
               obtain rfl : ad139 = ad141 := (by injection e141)
               have qi141 : (0 < (rd_L1 l0_1 x31_3).length) = True := eq_true (by omega)
               (try rw [show ((0 : Int)).toNat = 0 from rfl] at hx141_0)
               (try rw [Addr.add_zero'] at hx141_0)
               replace hx141_0 := (HB.out.cell (World.block_lt_of_cell? w _ hx141_0)).trans hx141_0
               replace p141 := eq_true p141; replace q141 := eq_true q141
               have p142 : 0 ≤ ((rd (rd_L1 l0_1 x31_3) 0) : Int) := da
               have q142 : (rd (rd_L1 l0_1 x31_3) 0) < (x5_3.length : Int) := da
               obtain ⟨ad142, e142, hx142_0⟩ := Kd.at_int (Kd.R_reads' HO_5.out).2.2 (rd (rd_L1 l0_1 x31_3) 0) p142 q142
               obtain rfl : (⟨go10, 0, none⟩ : Addr) = ad142 := (by injection e142)
               (first | simp only [add_plain] at hx142_0 | simp only [add_at] at hx142_0 | simp only [Addr.add, Nat.zero_add] at hx142_0 | skip)
               replace p142 := eq_true p142; replace q142 := eq_true q142
               have p143 : 0 ≤ (0 : Int) := (by omega)
               have q143 : 0 < ((rd_L1 l0_1 x31_3).length : Int) := da
               obtain ⟨ad143, e143, hx143_0⟩ := Kd.at_int HR126_0.out 0 p143 q143
               obtain rfl : ad139 = ad143 := (by injection e143)
               have qi143 : (0 < (rd_L1 l0_1 x31_3).length) = True := eq_true (by omega)
               (try rw [show ((0 : Int)).toNat = 0 from rfl] at hx143_0)
               (try rw [Addr.add_zero'] at hx143_0)
               replace hx143_0 := (HB.out.cell (World.block_lt_of_cell? w _ hx143_0)).trans hx143_0
               replace p143 := eq_true p143; replace q143 := eq_true q143
               have p54 : 0 ≤ ((rd (rd_L1 l0_1 x31_3) 0) : Int) := da
               have q54 : ((rd (rd_L1 l0_1 x31_3) 0) : Int) < ((x5_3.length : Int) : Int) := da
               obtain ⟨hx54_0, hf54_0⟩ := Kd.R_celln 0 HO_5.out ((rd (rd_L1 l0_1 x31_3) 0) : Int) p54 q54
               replace p54 := eq_true p54; replace q54 := eq_true q54
               have HP55 := Kd.R_putg HO_5.out ((rd (rd_L1 l0_1 x31_3) 0) : Int) (wrap64 (x7_2 + 1))
               go_wp2_with (first | ((with_reducible refine gate_store (t := 3) (p := 82) rfl ?_); refine store_event (t := 3) (p := 82) (v := ?vo_w56) (w1 := (wc.setCell ⟨go10, ((rd (rd_L1 l0_1 x31_3) 0) : Int).toNat, none⟩ (.int .i64 (wrap64 (x7_2 + 1))))) ?hg ?ho ?hn ?hr ?_; (case ho => rfl); (case hg => rfl); (case hn => rfl); (case hr => first | (go_simp; done) | (go_simp; rfl)); intro w56 hw; have hg : wc.grownBy w56 (some go10) := (by rw [hw]; exact HP55.2); have hp_ : Kd.R (Kd.int .i64) 3 w56 w.heap.size (fun _ => True) (.slice (some ⟨go10, 0, none⟩) x5_3.length co10) y144 := (by rw [hw, Ny144.out]; exact HP55.1); clear HP55; replace BK121 := ak (blk_grown (blkd BK121) hg (Kd.R_ne HO_5.out BK121.out (by decide))); replace HO_5 := ak (hp_); replace HB := ak ((by rw [hw]; exact below_set (HB.out) GB10.out : Below w.heap.size w w56)); clear hg hw hp_))
               (try simp only [← hl5_3])
               go_roundg kj18
               case measure => have := HK1.out; have := HK2.out; have := HK3.out; have := HJ18.out; omega
               case rel => exact ⟨(y144), (wrap64 (x31_3 + 1)), er, H', ⟨by have := HK1.out; have := HK2.out; have := HK3.out; have := HJ18.out; omega⟩, ⟨by (try simp only [hl5_2]); (try simp only [hl5_3]); (with_reducible repeat (first | apply Kd.R_alloc | apply Kd.R_drewN | apply Kd.R_drew)); exact HO_5.out⟩, ⟨by (try simp only [hl5_2]); (try simp only [hl5_3]); (with_reducible repeat (first | refine blk_drewN ?_ _ | refine blk_drew ?_ | refine blk_alloc ?_ _)); exact BK121.out⟩, ⟨belowg1 HB GE121⟩⟩
              ·rw [if_neg c53] at H
               have c53b0 : decide ((rd x5_3 (rd (rd_L1 l0_1 x31_3) 0)) < 0) = false := decide_eq_false c53
               clear c53
               have H' := Aside0.mk H
               clear H
               have p139 : 0 ≤ (1 : Int) := (by omega)
               have q139 : 1 < ((rd_L1 l0_1 x31_3).length : Int) := da
               obtain ⟨ad139, e139, hx139_0⟩ := Kd.at_int HR126_0.out 1 p139 q139
               cases e139
               (try simp only [show (1 : Int).toNat = 1 from rfl, Nat.reduceMul, Nat.reduceEqDiff, Go.Addr.add, ↓reduceIte] at hx139_0)
               have qi139 : (1 < (rd_L1 l0_1 x31_3).length) = True := eq_true (by omega)
               (try rw [show ((1 : Int)).toNat = 1 from rfl] at hx139_0)
               replace hx139_0 := (HB.out.cell (World.block_lt_of_cell? w _ hx139_0)).trans hx139_0
               replace p139 := eq_true p139; replace q139 := eq_true q139
               have p140 : 0 ≤ ((rd (rd_L1 l0_1 x31_3) 1) : Int) := da
               have q140 : (rd (rd_L1 l0_1 x31_3) 1) < (x5_3.length : Int) := da
               obtain ⟨ad140, e140, hx140_0⟩ := Kd.at_int (Kd.R_reads' HO_5.out).2.2 (rd (rd_L1 l0_1 x31_3) 1) p140 q140
               obtain rfl : (⟨go10, 0, none⟩ : Addr) = ad140 := (by injection e140)
               (first | simp only [add_plain] at hx140_0 | simp only [add_at] at hx140_0 | simp only [Addr.add, Nat.zero_add] at hx140_0 | skip)
               replace p140 := eq_true p140; replace q140 := eq_true q140
               have p141 : 0 ≤ (0 : Int) := (by omega)
               have q141 : 0 < ((rd_L1 l0_1 x31_3).length : Int) := da
               obtain ⟨ad141, e141, hx141_0⟩ := Kd.at_int HR126_0.out 0 p141 q141
               obtain rfl : ad139 = ad141 := (by injection e141)
               have qi141 : (0 < (rd_L1 l0_1 x31_3).length) = True := eq_true (by omega)
               (try rw [show ((0 : Int)).toNat = 0 from rfl] at hx141_0)
               (try rw [Addr.add_zero'] at hx141_0)
               replace hx141_0 := (HB.out.cell (World.block_lt_of_cell? w _ hx141_0)).trans hx141_0
               replace p141 := eq_true p141; replace q141 := eq_true q141
               have p142 : 0 ≤ ((rd (rd_L1 l0_1 x31_3) 0) : Int) := da
               have q142 : (rd (rd_L1 l0_1 x31_3) 0) < (x5_3.length : Int) := da
               obtain ⟨ad142, e142, hx142_0⟩ := Kd.at_int (Kd.R_reads' HO_5.out).2.2 (rd (rd_L1 l0_1 x31_3) 0) p142 q142
               obtain rfl : (⟨go10, 0, none⟩ : Addr) = ad142 := (by injection e142)
               (first | simp only [add_plain] at hx142_0 | simp only [add_at] at hx142_0 | simp only [Addr.add, Nat.zero_add] at hx142_0 | skip)
               replace p142 := eq_true p142; replace q142 := eq_true q142; go_wp2
               (try simp only [← hl5_3])
               go_roundg kj18
               case measure => have := HK1.out; have := HK2.out; have := HK3.out; have := HJ18.out; omega
               case rel => exact ⟨(x5_3), (wrap64 (x31_3 + 1)), er, H', ⟨by have := HK1.out; have := HK2.out; have := HK3.out; have := HJ18.out; omega⟩, ⟨by (try simp only [hl5_2]); (try simp only [hl5_3]); (with_reducible repeat (first | apply Kd.R_alloc | apply Kd.R_drewN | apply Kd.R_drew)); exact HO_5.out⟩, ⟨by (try simp only [hl5_2]); (try simp only [hl5_3]); (with_reducible repeat (first | refine blk_drewN ?_ _ | refine blk_drew ?_ | refine blk_alloc ?_ _)); exact BK121.out⟩, ⟨belowg1 HB GE121⟩⟩
             ·rw [if_neg c49] at H
              have c49b0 : ((rd x5_3 (rd (rd_L1 l0_1 x31_3) 1)) == x7_2) = false := beq_eq_false_iff_ne.mpr c49
              have c49b1 : ((rd x5_3 (rd (rd_L1 l0_1 x31_3) 1)) != x7_2) = true := bne_iff_ne.mpr c49
              have H' := Aside0.mk H
              clear H
              have p139 : 0 ≤ (1 : Int) := (by omega)
              have q139 : 1 < ((rd_L1 l0_1 x31_3).length : Int) := da
              obtain ⟨ad139, e139, hx139_0⟩ := Kd.at_int HR126_0.out 1 p139 q139
              cases e139
              (try simp only [show (1 : Int).toNat = 1 from rfl, Nat.reduceMul, Nat.reduceEqDiff, Go.Addr.add, ↓reduceIte] at hx139_0)
              have qi139 : (1 < (rd_L1 l0_1 x31_3).length) = True := eq_true (by omega)
              (try rw [show ((1 : Int)).toNat = 1 from rfl] at hx139_0)
              replace hx139_0 := (HB.out.cell (World.block_lt_of_cell? w _ hx139_0)).trans hx139_0
              replace p139 := eq_true p139; replace q139 := eq_true q139
              have p140 : 0 ≤ ((rd (rd_L1 l0_1 x31_3) 1) : Int) := da
              have q140 : (rd (rd_L1 l0_1 x31_3) 1) < (x5_3.length : Int) := da
              obtain ⟨ad140, e140, hx140_0⟩ := Kd.at_int (Kd.R_reads' HO_5.out).2.2 (rd (rd_L1 l0_1 x31_3) 1) p140 q140
              obtain rfl : (⟨go10, 0, none⟩ : Addr) = ad140 := (by injection e140)
              (first | simp only [add_plain] at hx140_0 | simp only [add_at] at hx140_0 | simp only [Addr.add, Nat.zero_add] at hx140_0 | skip)
              replace p140 := eq_true p140; replace q140 := eq_true q140; go_wp2
              (try simp only [← hl5_3])
              go_roundg kj18
              case measure => have := HK1.out; have := HK2.out; have := HK3.out; have := HJ18.out; omega
              case rel => exact ⟨(x5_3), (wrap64 (x31_3 + 1)), er, H', ⟨by have := HK1.out; have := HK2.out; have := HK3.out; have := HJ18.out; omega⟩, ⟨by (try simp only [hl5_2]); (try simp only [hl5_3]); (with_reducible repeat (first | apply Kd.R_alloc | apply Kd.R_drewN | apply Kd.R_drew)); exact HO_5.out⟩, ⟨by (try simp only [hl5_2]); (try simp only [hl5_3]); (with_reducible repeat (first | refine blk_drewN ?_ _ | refine blk_drew ?_ | refine blk_alloc ?_ _)); exact BK121.out⟩, ⟨belowg1 HB GE121⟩⟩
         ·rw [if_neg c16] at H
          have c16b0 : decide (x31_3 < (l0_1.length : Int)) = false := decide_eq_false c16
          have c16b0s := c16b0
          (try simp only [hl5_2, hl5_3] at c16b0s)
          clear c16
          have H' := Aside0.mk H
          clear H; go_wp2
          (try simp only [← hl5_2, ← hl5_3])
          go_roundg k3
          case measure => have := HK1.out; have := HK2.out; have := HK3.out; omega
          case rel => exact ⟨(x5_3), (wrap64 (x7_2 + 1)), er, H', ⟨by have := HK1.out; have := HK2.out; have := HK3.out; omega⟩, ⟨by (try simp only [hl5_2]); (try simp only [hl5_3]); (with_reducible repeat (first | apply Kd.R_alloc | apply Kd.R_drewN | apply Kd.R_drew)); exact HO_5.out⟩, ⟨by (try simp only [hl5_2]); (try simp only [hl5_3]); (with_reducible repeat (first | refine blk_drewN ?_ _ | refine blk_drew ?_ | refine blk_alloc ?_ _)); exact BK121.out⟩, ⟨belowg1 HB GE121⟩⟩
      ·rw [if_neg c14] at H
       have c14b0 : decide (x7_2 < a0_0) = false := decide_eq_false c14
       clear c14
       obtain rfl := Option.some.inj H
       obtain ⟨hcz57_0, hcz57_1, hcz57_2, hfz57_0, hfz57_1, hfz57_2⟩ := box3 BK121; go_wp2
       go_ret
       exact ⟨_, er2, by (with_reducible repeat (first | apply Kd.R_alloc | apply Kd.R_drewN | apply Kd.R_drew)); exact HO_5.out, belowg1 HB GE121⟩

/-! ### spec_GroupsOf: function 37 -/
mutual
def spec_GroupsOf.l0 : Nat → List Bool → List (List Int) → Int → Int → List (List Int) → List Int → Option ((List (List Int)) × Bool)
  | 0, _, _, _, _, _, _ => none
  | k + 1, x4, x5, x6, x146000, x146001, x146002 => if x6 < x146000 then (if 0 ≤ x6 then (if x6 < (x4.length : Int) then (if rdOf false x4 x6 = true then (spec_GroupsOf.l0 k x4 x5 (wrap64 (x6 + 1)) x146000 x146001 x146002) else ((spec_l15Far.f k x146000 x146001 x146002 x6).bind fun t151 => (spec_GroupsOf.l1 k x4 x5 x6 ([] : List Int) t151 (t151.length : Int) 0 x146000 x146001 x146002))) else (none)) else (none)) else (some (x5, true))
def spec_GroupsOf.l1 : Nat → List Bool → List (List Int) → Int → List Int → List Int → Int → Int → Int → List (List Int) → List Int → Option ((List (List Int)) × Bool)
  | 0, _, _, _, _, _, _, _, _, _, _ => none
  | k + 1, x4, x5, x6, x7, x28, x29, x30, x146000, x146001, x146002 => if x30 < x29 then (if 0 ≤ x30 then (if x30 < (x28.length : Int) then (if (rd x28 x30) ≥ 0 then (if x30 < (x4.length : Int) then (if x7.length < 17592186044416 then (spec_GroupsOf.l1 k (x4.set (x30 : Int).toNat true) x5 x6 (x7 ++ [x30]) x28 x29 (wrap64 (x30 + 1)) x146000 x146001 x146002) else (none)) else (none)) else (spec_GroupsOf.l1 k x4 x5 x6 x7 x28 x29 (wrap64 (x30 + 1)) x146000 x146001 x146002)) else (none)) else (none)) else (if x5.length < 5864062014805 then (spec_GroupsOf.l0 k x4 (x5 ++ [x7]) (wrap64 (x6 + 1)) x146000 x146001 x146002) else (none))
end
def spec_GroupsOf.f (k : Nat) (a0_0 : Int) (l0_1 : List (List Int)) (l0_2 : List Int) : Option ((List (List Int)) × Bool) := (spec_GoodTable.f k a0_0 l0_1 l0_2).bind fun t146 => (if t146 = true then (if 0 ≤ a0_0 then (if (a0_0 : Int).toNat ≤ 281474976710656 then (spec_GroupsOf.l0 k (List.replicate (a0_0 : Int).toNat false) ([] : List (List Int)) 0 a0_0 l0_1 l0_2) else (none)) else (none)) else (some (([] : List (List Int)), false)))
theorem spec_GroupsOf.mono_l : ∀ k, (∀ y0 y1 y2 y3 y4 y5, LeO (spec_GroupsOf.l0 k y0 y1 y2 y3 y4 y5) (spec_GroupsOf.l0 (k + 1) y0 y1 y2 y3 y4 y5)) ∧ (∀ y0 y1 y2 y3 y4 y5 y6 y7 y8 y9, LeO (spec_GroupsOf.l1 k y0 y1 y2 y3 y4 y5 y6 y7 y8 y9) (spec_GroupsOf.l1 (k + 1) y0 y1 y2 y3 y4 y5 y6 y7 y8 y9))
 | 0 => ⟨fun _ _ _ _ _ _ r h => by simp [spec_GroupsOf.l0] at h, fun _ _ _ _ _ _ _ _ _ _ r h => by simp [spec_GroupsOf.l1] at h⟩
 | k + 1 => by
  obtain ⟨ih0, ih1⟩ := spec_GroupsOf.mono_l k
  refine ⟨?_, ?_⟩
  ·intro y0 y1 y2 y3 y4 y5
   unfold spec_GroupsOf.l0
   repeat' (first | (with_reducible first | exact ih0 _ _ _ _ _ _ | exact ih1 _ _ _ _ _ _ _ _ _ _ | exact spec_GoodTable.mono _ _ _ _ | exact spec_l15Far.mono _ _ _ _ _ | exact LeO.refl _ | exact LeO.none _ | refine LeO.ite ?_ ?_ | refine LeO.bind ?_ (fun _ => ?_)) | exact ih0 _ _ _ _ _ _ | exact ih1 _ _ _ _ _ _ _ _ _ _ | exact spec_GoodTable.mono _ _ _ _ | exact spec_l15Far.mono _ _ _ _ _ | exact LeO.none _ | refine LeO.ite ?_ ?_ | refine LeO.bind ?_ (fun _ => ?_))
  ·intro y0 y1 y2 y3 y4 y5 y6 y7 y8 y9
   unfold spec_GroupsOf.l1
   repeat' (first | (with_reducible first | exact ih0 _ _ _ _ _ _ | exact ih1 _ _ _ _ _ _ _ _ _ _ | exact spec_GoodTable.mono _ _ _ _ | exact spec_l15Far.mono _ _ _ _ _ | exact LeO.refl _ | exact LeO.none _ | refine LeO.ite ?_ ?_ | refine LeO.bind ?_ (fun _ => ?_)) | exact ih0 _ _ _ _ _ _ | exact ih1 _ _ _ _ _ _ _ _ _ _ | exact spec_GoodTable.mono _ _ _ _ | exact spec_l15Far.mono _ _ _ _ _ | exact LeO.none _ | refine LeO.ite ?_ ?_ | refine LeO.bind ?_ (fun _ => ?_))
theorem spec_GroupsOf.mono : ∀ a0 a1 a2 k, LeO (spec_GroupsOf.f k a0 a1 a2) (spec_GroupsOf.f (k + 1) a0 a1 a2) := by
 intro a0 a1 a2 k
 obtain ⟨ih0, ih1⟩ := spec_GroupsOf.mono_l k
 unfold spec_GroupsOf.f
 repeat' (first | (with_reducible first | exact ih0 _ _ _ _ _ _ | exact ih1 _ _ _ _ _ _ _ _ _ _ | exact spec_GoodTable.mono _ _ _ _ | exact spec_l15Far.mono _ _ _ _ _ | exact LeO.refl _ | exact LeO.none _ | refine LeO.ite ?_ ?_ | refine LeO.bind ?_ (fun _ => ?_)) | exact ih0 _ _ _ _ _ _ | exact ih1 _ _ _ _ _ _ _ _ _ _ | exact spec_GoodTable.mono _ _ _ _ | exact spec_l15Far.mono _ _ _ _ _ | exact LeO.none _ | refine LeO.ite ?_ ?_ | refine LeO.bind ?_ (fun _ => ?_))
set_option maxHeartbeats 8000000 in
set_option maxRecDepth 100000 in
theorem spec_GroupsOf.calls (k : Nat) (a0_0 : Int) (A0_1 : Option Addr) (c0_1 : Nat) (l0_1 : List (List Int)) (A0_2 : Option Addr) (c0_2 : Nat) (l0_2 : List Int) (r1 : List (List Int)) (r2 : Bool) (w : World) (hr0_1 : Kd.C (Kd.slice 3 (Kd.int .i64)) w A0_1 l0_1.length l0_1) (hc0_1 : l0_1.length ≤ c0_1) (hr0_2 : Kd.C (Kd.int .i64) w A0_2 l0_2.length l0_2) (hc0_2 : l0_2.length ≤ c0_2) (h : spec_GroupsOf.f k a0_0 l0_1 l0_2 = some (r1, r2)) :
  Calls Try.prog 37 #[.agg #[.int .i64 a0_0, .slice A0_1 l0_1.length c0_1, .slice A0_2 l0_2.length c0_2]] w fun e w' => ∃ v0_ : Value, e = .returned (.tuple #[v0_, .bool r2]) ∧ Kd.S (Kd.slice 3 (Kd.int .i64)) 22 w' w.heap.size (fun _ => True) v0_ r1 ∧ Below w.heap.size w w' := by
 have hu38 := Try.underlying38
 have HR0_1 := Aside0.mk hr0_1; have HC0_1 := Aside0.mk hc0_1; clear hr0_1 hc0_1; have HR0_2 := Aside0.mk hr0_2; have HC0_2 := Aside0.mk hc0_2; clear hr0_2 hc0_2
 have HB := Aside0.mk (Below.refl w.heap.size w)
 have H : ((spec_GoodTable.f k a0_0 l0_1 l0_2).bind fun t146 => (if t146 = true then (if 0 ≤ a0_0 then (if (a0_0 : Int).toNat ≤ 281474976710656 then (spec_GroupsOf.l0 k (List.replicate (a0_0 : Int).toNat false) ([] : List (List Int)) 0 a0_0 l0_1 l0_2) else (none)) else (none)) else (some (([] : List (List Int)), false)))) = some (r1, r2) := h
 clear h; replace H := bS H; obtain ⟨t146, A2, H⟩ := H
 replace H : (if t146 = true then (if 0 ≤ a0_0 then (if (a0_0 : Int).toNat ≤ 281474976710656 then (spec_GroupsOf.l0 k (List.replicate (a0_0 : Int).toNat false) ([] : List (List Int)) 0 a0_0 l0_1 l0_2) else (none)) else (none)) else (some (([] : List (List Int)), false))) = some (r1, r2) := H
 by_cases c3 : t146 = true
 ·subst c3
  have H1 : (if 0 ≤ a0_0 then (if (a0_0 : Int).toNat ≤ 281474976710656 then (spec_GroupsOf.l0 k (List.replicate (a0_0 : Int).toNat false) ([] : List (List Int)) 0 a0_0 l0_1 l0_2) else (none)) else (none)) = some (r1, r2) := by rw [if_pos rfl] at H; exact H
  clear H
  have H := H1
  clear H1; replace H := ifS H; obtain ⟨c4, H⟩ := H; have c4b0 := eq_true c4
  have c4b1 : decide (0 ≤ a0_0) = true := decide_eq_true c4
  clear c4; replace H := ifS H; obtain ⟨c5, H⟩ := H; have c5b0 := eq_true c5
  have c5b1 : decide ((a0_0 : Int).toNat ≤ 281474976710656) = true := decide_eq_true c5
  clear c5
  obtain ⟨y147, hy_⟩ : ∃ y_ : List Bool, y_ = (List.replicate (a0_0 : Int).toNat false) := ⟨_, rfl⟩
  replace H : (spec_GroupsOf.l0 k y147 ([] : List (List Int)) 0 a0_0 l0_1 l0_2) = some (r1, r2) := yH
  have Ny147 := ak hy_; clear hy_
  have H' := Aside0.mk H
  clear H
  go_enter Try.func37, Try.ntmps37
  go_wp2_with (first | ((with_reducible refine gate_dst (N := 1) rfl ?_); refine boxev 1 #[.int .i64 a0_0, .slice A0_1 l0_1.length c0_1, .slice A0_2 l0_2.length c0_2] 38 ?_; intro gb145 hg w6 hbox hb; have BK145 := ak (hbox); have GW145 := ak (hgl hg (belowd HB)); have GE145 := ak (hgl hg (belowd HB)); replace HB := ak (below_step (belowd HB) hb); clear hb hbox hg; obtain ⟨hcz7_0, hcz7_1, hcz7_2, hfz7_0, hfz7_1, hfz7_2⟩ := box3 BK145) | ((with_reducible refine gate_callee (f := 60) rfl ?_); refine goesLa (some 11) rfl Try.func60 #[.agg #[.int .i64 a0_0, .slice A0_1 l0_1.length c0_1, .slice A0_2 l0_2.length c0_2]] rfl ?_; (with_reducible refine (spec_GoodTable.calls k a0_0 _ _ l0_1 _ _ l0_2 true _ ?side1 ?side2 ?side3 ?side4 A2.out).mono ?_); (case side1 => exact cd (Kd.C_below HR0_1.out HB.out)); (case side2 => exact HC0_1.out); (case side3 => exact cd (Kd.C_below HR0_2.out HB.out)); (case side4 => exact HC0_2.out); rintro e w8 ⟨rfl, hb⟩; refine ⟨_, rfl, ?_⟩; replace BK145 := ak (blk_below (blkd BK145) hb); replace HB := ak (below_step (belowg1 HB GE145) hb); (try clear hb); obtain ⟨hcz9_0, hcz9_1, hcz9_2, hfz9_0, hfz9_1, hfz9_2⟩ := box3 BK145) | ((with_reducible refine gate_dst (N := 15) rfl ?_); refine Kd.R_make Kd.bool _ 4 rfl (N := 15) rfl 115 _ _ rfl a0_0 rfl rfl Try.underlying115 (.bool false) 1 info4 rfl (by decide) (by omega) false (ok := fun _ => True) (okp := fun _ => True) rfl (fun _ hk => hk) trivial (da) (Nat.le_trans (Nat.mul_le_mul_right _ (da : a0_0.toNat ≤ 281474976710656)) (by omega)) (Below.refl _ _) (Nat.le_refl _) ?_; intro v148 w10 ho11 hb hg_ hnew_; clear hg_ hnew_; (first | rw [← Ny147.out] at ho11 | (simp only [Int.reduceToNat] at ho11; rw [← Ny147.out] at ho11)); have HO149 := ak (Kd.R_lower ho11 (below_size (belowg1 HB GE145))); replace BK145 := ak (blk_below (blkd BK145) hb); replace HB := ak (below_step (belowg1 HB GE145) hb); clear hb ho11))
  go_loopg [5, 6] k (fun kq v5 v6 w' => ∃ (x4_1 : List Bool) (x5_1 : List (List Int)) (x6_1 : Int), v6 = .int .i64 x6_1 ∧ Aside0 (spec_GroupsOf.l0 kq x4_1 x5_1 x6_1 a0_0 l0_1 l0_2 = some (r1, r2)) ∧ Aside0 (kq ≤ k) ∧ Aside0 (Kd.R Kd.bool 4 w' w.heap.size (fun _ => True) v148 x4_1) ∧ Aside0 (Kd.S (Kd.slice 3 (Kd.int .i64)) 22 w' w.heap.size (fun _ => True) v5 x5_1) ∧ Aside0 (w'.heap[gb145]? = some (.cells #[.int .i64 a0_0, (.slice A0_1 l0_1.length c0_1), (.slice A0_2 l0_2.length c0_2)] 38 (0, 0))) ∧ Aside0 (Below w.heap.size w w'))
  case atStart => exact ⟨(y147), (([] : List (List Int))), (0), er, H', ⟨Nat.le_refl _⟩, ⟨rdl HO149⟩, ⟨by first | exact Kd.S_nil _ _ _ _ _ | exact Kd.N_nil _ _ _ _ _ | exact Kd.V_nil _ _ _ _ _ | exact Kd.Q_nil _ _ _ _ _ | exact Kd.R_nil _ _ _ _ _⟩, ⟨blkd BK145⟩, ⟨belowg1 HB GE145⟩⟩
  case round =>
   clear H'
   (try clear c3); (try clear c4b0); (try clear c4b1); (try clear c5b0); (try clear c5b1); (try clear hcz7_0); (try clear hcz7_1); (try clear hcz7_2); (try clear hcz9_0); (try clear hcz9_1); (try clear hcz9_2); (try clear hfz7_0); (try clear hfz7_1); (try clear hfz7_2); (try clear hfz9_0); (try clear hfz9_1); (try clear hfz9_2)
   obtain ⟨x4_1, x5_1, x6_1, rfl, HA, HK1, HO_4, HO_5, BK145, HB⟩ := hrel
   cases gk with
   | zero => exact absurd HA.out (by simp [spec_GroupsOf.l0])
   | succ k1 =>
    have H := HA.out; clear HA
    simp only [spec_GroupsOf.l0] at H
    by_cases c12 : x6_1 < a0_0
    ·rw [if_pos c12] at H
     have c12b0 : decide (x6_1 < a0_0) = true := decide_eq_true c12
     clear c12; replace H := ifS H; obtain ⟨c13, H⟩ := H; have c13b0 := decide_eq_true c13; clear c13; replace H := ifS H; obtain ⟨c14, H⟩ := H; have c14b0 := decide_eq_true c14; clear c14
     obtain ⟨bq15, hbq15⟩ : ∃ b_ : Bool, b_ = (rdOf false x4_1 x6_1) := ⟨_, rfl⟩
     replace H : (if bq15 = true then (spec_GroupsOf.l0 k1 x4_1 x5_1 (wrap64 (x6_1 + 1)) a0_0 l0_1 l0_2) else ((spec_l15Far.f k1 a0_0 l0_1 l0_2 x6_1).bind fun t151 => (spec_GroupsOf.l1 k1 x4_1 x5_1 x6_1 ([] : List Int) t151 (t151.length : Int) 0 a0_0 l0_1 l0_2))) = some (r1, r2) := by rw [← hbq15] at H; exact H
     have Nbq15 := Aside0.mk hbq15; clear hbq15
     by_cases c16 : bq15 = true
     ·subst c16
      have H1 : (spec_GroupsOf.l0 k1 x4_1 x5_1 (wrap64 (x6_1 + 1)) a0_0 l0_1 l0_2) = some (r1, r2) := by rw [if_pos rfl] at H; exact H
      clear H
      have H := H1
      clear H1
      have H' := Aside0.mk H
      clear H; obtain ⟨hcz17_0, hcz17_1, hcz17_2, hfz17_0, hfz17_1, hfz17_2⟩ := box3 BK145
      obtain ⟨Ao18, co18, eo18⟩ := Kd.R_slice HO_4.out
      subst eo18
      have p150 : 0 ≤ (x6_1 : Int) := da
      have q150 : x6_1 < (x4_1.length : Int) := da
      obtain ⟨ad150, e150, hx150_0⟩ := Kd.at_bool (Kd.R_reads' HO_4.out).2.2 x6_1 p150 q150
      (try rw [← Nbq15.out] at hx150_0)
      cases e150
      replace p150 := eq_true p150; replace q150 := eq_true q150; go_wp2
      go_roundg k1
      case measure => have := HK1.out; omega
      case rel => exact ⟨(x4_1), (x5_1), (wrap64 (x6_1 + 1)), er, H', ⟨by have := HK1.out; omega⟩, ⟨rdl HO_4⟩, ⟨sd HO_5⟩, ⟨blkd BK145⟩, ⟨belowg1 HB GE145⟩⟩
     ·replace c16 := Bool.eq_false_iff.mpr c16
      subst c16
      have H1 : ((spec_l15Far.f k1 a0_0 l0_1 l0_2 x6_1).bind fun t151 => (spec_GroupsOf.l1 k1 x4_1 x5_1 x6_1 ([] : List Int) t151 (t151.length : Int) 0 a0_0 l0_1 l0_2)) = some (r1, r2) := by rw [if_neg (show ¬ (false = true) by decide)] at H; exact H
      clear H
      have H := H1
      clear H1; replace H := bS H; obtain ⟨t151, A19, H⟩ := H
      replace H : (spec_GroupsOf.l1 k1 x4_1 x5_1 x6_1 ([] : List Int) t151 (t151.length : Int) 0 a0_0 l0_1 l0_2) = some (r1, r2) := H
      have H' := Aside0.mk H
      clear H; obtain ⟨hcz20_0, hcz20_1, hcz20_2, hfz20_0, hfz20_1, hfz20_2⟩ := box3 BK145
      obtain ⟨Ao21, co21, eo21⟩ := Kd.R_slice HO_4.out
      subst eo21
      have p150 : 0 ≤ (x6_1 : Int) := da
      have q150 : x6_1 < (x4_1.length : Int) := da
      obtain ⟨ad150, e150, hx150_0⟩ := Kd.at_bool (Kd.R_reads' HO_4.out).2.2 x6_1 p150 q150
      (try rw [← Nbq15.out] at hx150_0)
      cases e150
      replace p150 := eq_true p150; replace q150 := eq_true q150
      go_wp2_with (first | ((with_reducible refine gate_callee (f := 106) rfl ?_); refine goesLa (some 28) rfl Try.func106 #[.agg #[.int .i64 a0_0, .slice A0_1 l0_1.length c0_1, .slice A0_2 l0_2.length c0_2], .int .i64 x6_1] rfl ?_; (with_reducible refine (spec_l15Far.calls k1 a0_0 _ _ l0_1 _ _ l0_2 x6_1 t151 _ ?side1 ?side2 ?side3 ?side4 A19.out).mono ?_); (case side1 => exact cd (Kd.C_below HR0_1.out HB.out)); (case side2 => exact HC0_1.out); (case side3 => exact cd (Kd.C_below HR0_2.out HB.out)); (case side4 => exact HC0_2.out); rintro e w22 ⟨v152, rfl, ho0, hb⟩; refine ⟨_, rfl, ?_⟩; replace HO_4 := ak (Kd.R_below (rdl HO_4) hb); replace HO_5 := ak (Kd.S_elder' (sd HO_5) (Kd.R_base ho0) hb); have HO153 := ak (Kd.R_lower ho0 (below_size (belowg1 HB GE145))); replace BK145 := ak (blk_below (blkd BK145) hb); replace HB := ak (below_step (belowg1 HB GE145) hb); (try clear hb); (try clear ho0); obtain ⟨Ao23, co23, eo23⟩ := Kd.R_slice HO153.out; subst eo23))
      go_loopg [7, 30] k1 (fun kq v7 v30 w' => ∃ (x4_2 : List Bool) (x7_2 : List Int) (x30_2 : Int), v30 = .int .i64 x30_2 ∧ Aside0 (spec_GroupsOf.l1 kq x4_2 x5_1 x6_1 x7_2 t151 (t151.length : Int) x30_2 a0_0 l0_1 l0_2 = some (r1, r2)) ∧ Aside0 (kq ≤ k1) ∧ Aside0 (Kd.R Kd.bool 4 w' w.heap.size (fun _ => True) (.slice (some ad150) x4_1.length co21) x4_2) ∧ Aside0 (Kd.S (Kd.slice 3 (Kd.int .i64)) 22 w' w.heap.size (fun k_ => some k_ ≠ (v7 : Value).ownBlock ∧ some k_ ≠ ((.slice Ao23 t151.length co23) : Value).ownBlock) u5 x5_1) ∧ Aside0 (Kd.R (Kd.int .i64) 3 w' w.heap.size (fun k_ => some k_ ≠ ((.slice Ao23 t151.length co23) : Value).ownBlock) v7 x7_2) ∧ Aside0 (Kd.R (Kd.int .i64) 3 w' w.heap.size (fun k_ => some k_ ≠ (v7 : Value).ownBlock) (.slice Ao23 t151.length co23) t151) ∧ Aside0 (w'.heap[gb145]? = some (.cells #[.int .i64 a0_0, (.slice A0_1 l0_1.length c0_1), (.slice A0_2 l0_2.length c0_2)] 38 (0, 0))) ∧ Aside0 (Below w.heap.size w w'))
      case atStart => exact ⟨(x4_1), (([] : List Int)), (0), er, H', ⟨Nat.le_refl _⟩, ⟨rdl HO_4⟩, ⟨by (with_reducible repeat (first | apply Kd.S_alloc | apply Kd.S_drewN | apply Kd.S_drew)); exact Kd.S_mono HO_5.out (fun _ hk => ⟨(by simp [Value.ownBlock]), hk.2⟩)⟩, ⟨by first | exact Kd.R_nil _ _ _ _ _ | exact Kd.N_nil _ _ _ _ _ | exact Kd.V_nil _ _ _ _ _ | exact Kd.Q_nil _ _ _ _ _ | exact Kd.S_nil _ _ _ _ _⟩, ⟨by (with_reducible repeat (first | apply Kd.R_alloc | apply Kd.R_drewN | apply Kd.R_drew)); exact Kd.R_mono HO153.out (fun _ hk => (by simp [Value.ownBlock]))⟩, ⟨blkd BK145⟩, ⟨belowg1 HB GE145⟩⟩
      case round =>
       clear H'
       (try clear c12b0); (try clear c13b0); (try clear c14b0); (try clear c16); (try clear hcz20_0); (try clear hcz20_1); (try clear hcz20_2); (try clear hfz20_0); (try clear hfz20_1); (try clear hfz20_2); (try clear hx150_0); (try clear p150); (try clear q150)
       obtain ⟨x4_2, x7_2, x30_2, rfl, HA, HK2, HO_4, HO_5, HO_7, HO_28, BK145, HB⟩ := hrel
       have hl4_2 := (Kd.R_reads' HO_4.out).1
       rw [hl4_2] at HO_4
       (try simp only [hl4_2])
       (try simp only [hl4_2] at BK145)
       (try simp only [hl4_2] at HO_5)
       (try simp only [hl4_2] at HO_7)
       (try simp only [hl4_2] at HO_28)
       cases gk with
       | zero => exact absurd HA.out (by simp [spec_GroupsOf.l1])
       | succ k2 =>
        have H := HA.out; clear HA
        simp only [spec_GroupsOf.l1] at H
        by_cases c24 : x30_2 < (t151.length : Int)
        ·rw [if_pos c24] at H
         have c24b0 : decide (x30_2 < (t151.length : Int)) = true := decide_eq_true c24
         clear c24; replace H := ifS H; obtain ⟨c25, H⟩ := H; have c25b0 := decide_eq_true c25; clear c25; replace H := ifS H; obtain ⟨c26, H⟩ := H; have c26b0 := decide_eq_true c26; clear c26
         by_cases c27 : (rd t151 x30_2) ≥ 0
         ·rw [if_pos c27] at H
          have c27b0 : decide (0 ≤ (rd t151 x30_2)) = true := decide_eq_true c27
          clear c27; replace H := ifS H; obtain ⟨c28, H⟩ := H; have c28b0 := decide_eq_true c28; clear c28
          obtain ⟨y155, hy_⟩ : ∃ y_ : List Bool, y_ = (x4_2.set (x30_2 : Int).toNat true) := ⟨_, rfl⟩
          replace H : (if x7_2.length < 17592186044416 then (spec_GroupsOf.l1 k2 y155 x5_1 x6_1 (x7_2 ++ [x30_2]) t151 (t151.length : Int) (wrap64 (x30_2 + 1)) a0_0 l0_1 l0_2) else (none)) = some (r1, r2) := yH
          have Ny155 := ak hy_; clear hy_; replace H := ifS H; obtain ⟨c30, H⟩ := H; have LMc30 := Aside0.mk c30; clear c30
          obtain ⟨y156, hy_⟩ : ∃ y_ : List Int, y_ = (x7_2 ++ [x30_2]) := ⟨_, rfl⟩
          replace H : (spec_GroupsOf.l1 k2 y155 x5_1 x6_1 y156 t151 (t151.length : Int) (wrap64 (x30_2 + 1)) a0_0 l0_1 l0_2) = some (r1, r2) := yH
          have Ny156 := ak hy_; clear hy_
          have H' := Aside0.mk H
          clear H
          have p154 : 0 ≤ (x30_2 : Int) := da
          have q154 : x30_2 < (t151.length : Int) := da
          obtain ⟨ad154, e154, hx154_0⟩ := Kd.at_int (Kd.R_reads' HO_28.out).2.2 x30_2 p154 q154
          cases e154
          replace p154 := eq_true p154; replace q154 := eq_true q154
          have p29 : 0 ≤ (x30_2 : Int) := da
          have q29 : (x30_2 : Int) < ((x4_2.length : Int) : Int) := da
          obtain ⟨go29, co29, eo29, gb29, gl29, cl29, HG29⟩ := Kd.R_form HO_4.out (by omega)
          (first | cases eo29 | (injection eo29 with ea_ en_ ec_; (first | subst ea_ | (injection ea_ with ea_; subst ea_)); subst ec_; clear en_))
          have GB29 := Aside0.mk gb29; have GG29 := Aside0.mk HG29; clear gb29 gl29 HG29
          (first | simp only [add_plain] at hx150_0 | skip)
          obtain ⟨hx29_0, hf29_0⟩ := Kd.R_celln false HO_4.out (x30_2 : Int) p29 q29
          replace p29 := eq_true p29; replace q29 := eq_true q29
          have HP31 := Kd.R_putg HO_4.out (x30_2 : Int) true
          go_wp2_with (first | ((with_reducible refine gate_store (t := 4) (p := 39) rfl ?_); refine store_event (t := 4) (p := 39) (v := ?vo_w32) (w1 := (wr.setCell ⟨go29, (x30_2 : Int).toNat, none⟩ (.bool true))) ?hg ?ho ?hn ?hr ?_; (case ho => rfl); (case hg => rfl); (case hn => rfl); (case hr => first | (go_simp; done) | (go_simp; rfl)); intro w32 hw; have hg : wr.grownBy w32 (some go29) := (by rw [hw]; exact HP31.2); have hp_ : Kd.R Kd.bool 4 w32 w.heap.size (fun _ => True) (.slice (some ⟨go29, 0, none⟩) x4_2.length co21) y155 := (by rw [hw, Ny155.out]; exact HP31.1); clear HP31; replace HO_5 := ak (Kd.S_over' (v := (.slice (some ⟨go29, 0, none⟩) x4_2.length co21)) (sd HO_5) (Kd.R_typed HO_4.out) (by decide) hg); replace HO_7 := ak (Kd.R_over' (v := (.slice (some ⟨go29, 0, none⟩) x4_2.length co21)) (rdl HO_7) (Kd.R_typed HO_4.out) (by decide) hg); replace HO_28 := ak (Kd.R_over' (v := (.slice (some ⟨go29, 0, none⟩) x4_2.length co21)) (rdl HO_28) (Kd.R_typed HO_4.out) (by decide) hg); replace BK145 := ak (blk_grown (blkd BK145) hg (Kd.R_ne HO_4.out BK145.out (by decide))); replace HO_4 := ak (hp_); replace HB := ak ((by rw [hw]; exact below_set (HB.out) GB29.out : Below w.heap.size w w32)); clear hg hw hp_) | ((with_reducible refine gate_builtin (b := .append) (xs := #[.tmp 40, .tmp 42]) rfl ?_); at_builtin; refine Kd.R_append (Kd.int .i64) (w0 := w) w.heap.size rfl (.tmp 40) (.tmp 42) 22 3 (.int .i64 0) 8 rfl Try.underlying22 info3 rfl (by decide) (by omega) u7 x7_2 x30_2 [.int .i64 x30_2] (fun k_ => some k_ ≠ (.slice (some ad154) t151.length co23 : Value).ownBlock) (fun _ => False) rfl rfl ?aP (fun _ hk => hk.elim) ?aF ?aO ?aB ?aS ?aL ?_; (case aP => exact rfl); (case aB => exact (belowg1 HB GE145)); (case aF => exact (fun k_ hk => Kd.fresh' (Kd.R_lt (rdl HO_28)) k_ hk)); (case aO => exact (rdl HO_7)); (case aS => exact (below_size (belowg1 HB GE145))); (case aL => have := LMc30.out; omega); intro v157 w33 ho hb hg hat; rw [← Ny156.out] at ho; replace HO_4 := ak (Kd.R_over' (rdl HO_4) (Kd.R_typed (rdl HO_7)) (by decide) hg); replace HO_5 := ak (Kd.S_after (ok := (fun k_ => some k_ ≠ (.slice (some ad154) t151.length co23 : Value).ownBlock)) (by (with_reducible repeat (first | apply Kd.S_alloc | apply Kd.S_drewN | apply Kd.S_drew)); exact Kd.S_mono HO_5.out (fun _ hk => ⟨hk.2, hk.1⟩)) hg hat); replace HO_28 := ak (Kd.R_after (ok := (fun _ => True)) (by (with_reducible repeat (first | apply Kd.R_alloc | apply Kd.R_drewN | apply Kd.R_drew)); exact Kd.R_mono HO_28.out (fun _ hk => ⟨trivial, hk⟩)) hg hat); replace BK145 := ak (blk_grown (blkd BK145) hg (Kd.R_ne HO_7.out BK145.out (by decide))); replace HB := ak (hb); have HO158 := ak (ho); clear HO_7; clear ho hb hg hat))
          (try simp only [← hl4_2])
          (first | go_roundg k2 | ((try rw [← add_plain go29 (x6_1 : Int).toNat]); go_roundg k2))
          case measure => have := HK1.out; have := HK2.out; omega
          case rel => exact ⟨(y155), (y156), (wrap64 (x30_2 + 1)), er, H', ⟨by have := HK1.out; have := HK2.out; omega⟩, ⟨by (try simp only [hl4_2]); (with_reducible repeat (first | apply Kd.R_alloc | apply Kd.R_drewN | apply Kd.R_drew)); exact HO_4.out⟩, ⟨by (try simp only [hl4_2]); (with_reducible repeat (first | apply Kd.S_alloc | apply Kd.S_drewN | apply Kd.S_drew)); exact Kd.S_mono HO_5.out (fun _ hk => ⟨hk.2, hk.1⟩)⟩, ⟨by (try simp only [hl4_2]); (with_reducible repeat (first | apply Kd.R_alloc | apply Kd.R_drewN | apply Kd.R_drew)); exact HO158.out⟩, ⟨by (try simp only [hl4_2]); (with_reducible repeat (first | apply Kd.R_alloc | apply Kd.R_drewN | apply Kd.R_drew)); exact Kd.R_mono HO_28.out (fun _ hk => hk.2)⟩, ⟨by (try simp only [hl4_2]); (with_reducible repeat (first | refine blk_drewN ?_ _ | refine blk_drew ?_ | refine blk_alloc ?_ _)); exact BK145.out⟩, ⟨belowg1 HB GE145⟩⟩
         ·rw [if_neg c27] at H
          have c27b0 : decide (0 ≤ (rd t151 x30_2)) = false := decide_eq_false c27
          clear c27
          have H' := Aside0.mk H
          clear H
          have p154 : 0 ≤ (x30_2 : Int) := da
          have q154 : x30_2 < (t151.length : Int) := da
          obtain ⟨ad154, e154, hx154_0⟩ := Kd.at_int (Kd.R_reads' HO_28.out).2.2 x30_2 p154 q154
          cases e154
          replace p154 := eq_true p154; replace q154 := eq_true q154; go_wp2
          (try simp only [← hl4_2])
          go_roundg k2
          case measure => have := HK1.out; have := HK2.out; omega
          case rel => exact ⟨(x4_2), (x7_2), (wrap64 (x30_2 + 1)), er, H', ⟨by have := HK1.out; have := HK2.out; omega⟩, ⟨by (try simp only [hl4_2]); (with_reducible repeat (first | apply Kd.R_alloc | apply Kd.R_drewN | apply Kd.R_drew)); exact HO_4.out⟩, ⟨by (try simp only [hl4_2]); (with_reducible repeat (first | apply Kd.S_alloc | apply Kd.S_drewN | apply Kd.S_drew)); exact HO_5.out⟩, ⟨by (try simp only [hl4_2]); (with_reducible repeat (first | apply Kd.R_alloc | apply Kd.R_drewN | apply Kd.R_drew)); exact HO_7.out⟩, ⟨by (try simp only [hl4_2]); (with_reducible repeat (first | apply Kd.R_alloc | apply Kd.R_drewN | apply Kd.R_drew)); exact HO_28.out⟩, ⟨by (try simp only [hl4_2]); (with_reducible repeat (first | refine blk_drewN ?_ _ | refine blk_drew ?_ | refine blk_alloc ?_ _)); exact BK145.out⟩, ⟨belowg1 HB GE145⟩⟩
        ·rw [if_neg c24] at H
         have c24b0 : decide (x30_2 < (t151.length : Int)) = false := decide_eq_false c24
         have c24b0s := c24b0
         (try simp only [hl4_2] at c24b0s)
         clear c24; replace H := ifS H; obtain ⟨c34, H⟩ := H; have LMc34 := Aside0.mk c34; clear c34
         obtain ⟨y159, hy_⟩ : ∃ y_ : List (List Int), y_ = (x5_1 ++ [x7_2]) := ⟨_, rfl⟩
         replace H : (spec_GroupsOf.l0 k2 x4_2 y159 (wrap64 (x6_1 + 1)) a0_0 l0_1 l0_2) = some (r1, r2) := yH
         have Ny159 := ak hy_; clear hy_
         have H' := Aside0.mk H
         clear H
         obtain ⟨Ao36, co36, eo36⟩ := Kd.R_slice HO_7.out
         subst eo36
         go_wp2_with (first | ((with_reducible refine gate_builtin (b := .append) (xs := #[.tmp 45, .tmp 47]) rfl ?_); at_builtin; refine Kd.S_append (Kd.slice 3 (Kd.int .i64)) (w0 := w) w.heap.size rfl (.tmp 45) (.tmp 47) 32 22 (.slice none 0 0) 24 rfl Try.underlying32 info22 rfl (by decide) (by omega) u5 x5_1 x7_2 [.slice Ao36 x7_2.length co36] (fun k_ => some k_ ≠ (.slice Ao23 t151.length co23 : Value).ownBlock) (fun k_ => some k_ = (.slice Ao36 x7_2.length co36 : Value).ownBlock) rfl rfl ?aP (fun k_ hk_ => ((Kd.R_mono (ok' := fun k_ => ((fun k_ => some k_ ≠ (.slice Ao23 t151.length co23 : Value).ownBlock)) k_ ∧ some k_ ≠ (u5 : Value).ownBlock) (Kd.R_apart' (HO_7.out) (Kd.S_typed HO_5.out) (by decide)) (fun k_ hk => ⟨hk.1, hk.2⟩))).1 k_ hk_.symm) ?aF ?aO ?aB ?aS ?aL ?_; (case aP => exact Kd.M_row (Kd.R_mono (Kd.R_tight rfl (Kd.R_mono (ok' := fun k_ => ((fun k_ => some k_ ≠ (.slice Ao23 t151.length co23 : Value).ownBlock)) k_ ∧ some k_ ≠ (u5 : Value).ownBlock) (Kd.R_apart' (HO_7.out) (Kd.S_typed HO_5.out) (by decide)) (fun k_ hk => ⟨hk.1, hk.2⟩))) (fun _ h_ => h_))); (case aB => exact (belowg1 HB GE145)); (case aF => exact (fun k_ hk => Kd.fresh' (Kd.R_lt (rdl HO_28)) k_ hk)); (case aO => exact (by (with_reducible repeat (first | apply Kd.S_alloc | apply Kd.S_drewN | apply Kd.S_drew)); exact Kd.S_mono HO_5.out (fun k_ hk => ⟨hk.2, fun e_ => hk.1 e_⟩))); (case aS => exact (below_size (belowg1 HB GE145))); (case aL => have := LMc34.out; omega); intro v160 w35 ho hb hg hat; rw [← Ny159.out] at ho; replace HO_4 := ak (Kd.R_over' (rdl HO_4) (Kd.S_typed (sd HO_5)) (by decide) hg); replace HO_28 := ak (Kd.R_over' (rdl HO_28) (Kd.S_typed (sd HO_5)) (by decide) hg); replace BK145 := ak (blk_grown (blkd BK145) hg (Kd.S_ne HO_5.out BK145.out (by decide))); replace HB := ak (hb); have HO161 := ak (ho); clear HO_5 HO_7; clear ho hb hg hat))
         (try simp only [← hl4_2])
         go_roundg k2
         case measure => have := HK1.out; have := HK2.out; omega
         case rel => exact ⟨(x4_2), (y159), (wrap64 (x6_1 + 1)), er, H', ⟨by have := HK1.out; have := HK2.out; omega⟩, ⟨by (try simp only [hl4_2]); (with_reducible repeat (first | apply Kd.R_alloc | apply Kd.R_drewN | apply Kd.R_drew)); exact HO_4.out⟩, ⟨by (try simp only [hl4_2]); (with_reducible repeat (first | apply Kd.S_alloc | apply Kd.S_drewN | apply Kd.S_drew)); exact Kd.S_mono HO161.out (fun _ hk => trivial)⟩, ⟨by (try simp only [hl4_2]); (with_reducible repeat (first | refine blk_drewN ?_ _ | refine blk_drew ?_ | refine blk_alloc ?_ _)); exact BK145.out⟩, ⟨belowg1 HB GE145⟩⟩
    ·rw [if_neg c12] at H
     have c12b0 : decide (x6_1 < a0_0) = false := decide_eq_false c12
     clear c12
     simp only [Option.some.injEq, Prod.mk.injEq] at H
     obtain ⟨rfl, rfl⟩ := H; obtain ⟨hcz37_0, hcz37_1, hcz37_2, hfz37_0, hfz37_1, hfz37_2⟩ := box3 BK145; go_wp2
     go_ret2
     exact ⟨_, er2, by (with_reducible repeat (first | apply Kd.S_alloc | apply Kd.S_drewN | apply Kd.S_drew)); exact HO_5.out, belowg1 HB GE145⟩
 ·replace c3 := Bool.eq_false_iff.mpr c3
  subst c3
  have H1 : (some (([] : List (List Int)), false)) = some (r1, r2) := by rw [if_neg (show ¬ (false = true) by decide)] at H; exact H
  clear H
  have H := H1
  clear H1
  simp only [Option.some.injEq, Prod.mk.injEq] at H
  obtain ⟨rfl, rfl⟩ := H
  go_enter Try.func37, Try.ntmps37
  go_wp2_with (first | ((with_reducible refine gate_dst (N := 1) rfl ?_); refine boxev 1 #[.int .i64 a0_0, .slice A0_1 l0_1.length c0_1, .slice A0_2 l0_2.length c0_2] 38 ?_; intro gb145 hg w38 hbox hb; have BK145 := ak (hbox); have GW145 := ak (hgl hg (belowd HB)); have GE145 := ak (hgl hg (belowd HB)); replace HB := ak (below_step (belowd HB) hb); clear hb hbox hg; obtain ⟨hcz39_0, hcz39_1, hcz39_2, hfz39_0, hfz39_1, hfz39_2⟩ := box3 BK145) | ((with_reducible refine gate_callee (f := 60) rfl ?_); refine goesLa (some 11) rfl Try.func60 #[.agg #[.int .i64 a0_0, .slice A0_1 l0_1.length c0_1, .slice A0_2 l0_2.length c0_2]] rfl ?_; (with_reducible refine (spec_GoodTable.calls k a0_0 _ _ l0_1 _ _ l0_2 false _ ?side1 ?side2 ?side3 ?side4 A2.out).mono ?_); (case side1 => exact cd (Kd.C_below HR0_1.out HB.out)); (case side2 => exact HC0_1.out); (case side3 => exact cd (Kd.C_below HR0_2.out HB.out)); (case side4 => exact HC0_2.out); rintro e w40 ⟨rfl, hb⟩; refine ⟨_, rfl, ?_⟩; replace BK145 := ak (blk_below (blkd BK145) hb); replace HB := ak (below_step (belowg1 HB GE145) hb); (try clear hb)))
  go_ret2
  exact ⟨_, er2, by first | exact Kd.S_nil _ _ _ _ _ | exact Kd.N_nil _ _ _ _ _ | exact Kd.V_nil _ _ _ _ _ | exact Kd.Q_nil _ _ _ _ _ | exact Kd.R_nil _ _ _ _ _, belowg1 HB GE145⟩

/-! ### impl_within: function 87 -/
def impl_within.f (a0 : Int) (a1 : Int) (a2 : Int) : Option (Bool) := if a0 ≥ a1 then (some (decide (a0 ≤ a2))) else (some false)
set_option maxHeartbeats 8000000 in
set_option maxRecDepth 100000 in
theorem impl_within.calls (a0 : Int) (a1 : Int) (a2 : Int) (r : Bool) (w : World) (h : impl_within.f a0 a1 a2 = some r) :
  Calls Try.prog 87 #[.int .i64 a0, .int .i64 a1, .int .i64 a2] w fun e w' => e = .returned (.bool r) ∧ Drawn0 w w' := by
 have H : (if a0 ≥ a1 then (some (decide (a0 ≤ a2))) else (some false)) = some r := h
 clear h
 by_cases c4 : a0 ≥ a1
 ·rw [if_pos c4] at H
  have c4b0 : decide (a1 ≤ a0) = true := decide_eq_true c4
  clear c4
  obtain rfl := Option.some.inj H
  go_enter Try.func87, Try.ntmps87
  go_wp2
  go_ret
  exact ⟨er, drw⟩
 ·rw [if_neg c4] at H
  have c4b0 : decide (a1 ≤ a0) = false := decide_eq_false c4
  clear c4
  obtain rfl := Option.some.inj H
  go_enter Try.func87, Try.ntmps87
  go_wp2
  go_ret
  exact ⟨er, drw⟩

/-! ### impl_allWithin: function 124 -/
def impl_allWithin.l0 : Nat → Int → Int → List Int → Int → Int → Option (Bool)
  | 0, _, _, _, _, _ => none
  | k + 1, x1, x2, x9, x10, x11 => if x11 < x10 then (if 0 ≤ x11 then (if x11 < (x9.length : Int) then ((impl_within.f (rd x9 x11) x1 x2).bind fun t163 => (if t163 = true then (impl_allWithin.l0 k x1 x2 x9 x10 (wrap64 (x11 + 1))) else (some false))) else (none)) else (none)) else (some true)
def impl_allWithin.f (k : Nat) (l0 : List Int) (a1 : Int) (a2 : Int) : Option (Bool) := impl_allWithin.l0 k a1 a2 l0 (l0.length : Int) 0
theorem impl_allWithin.mono_l : ∀ k, (∀ y0 y1 y2 y3 y4, LeO (impl_allWithin.l0 k y0 y1 y2 y3 y4) (impl_allWithin.l0 (k + 1) y0 y1 y2 y3 y4))
 | 0 => fun _ _ _ _ _ r h => by simp [impl_allWithin.l0] at h
 | k + 1 => by
  have ih0 := impl_allWithin.mono_l k
  ·intro y0 y1 y2 y3 y4
   unfold impl_allWithin.l0
   repeat' (first | (with_reducible first | exact ih0 _ _ _ _ _ | exact LeO.refl _ | exact LeO.none _ | refine LeO.ite ?_ ?_ | refine LeO.bind ?_ (fun _ => ?_)) | exact ih0 _ _ _ _ _ | exact LeO.none _ | refine LeO.ite ?_ ?_ | refine LeO.bind ?_ (fun _ => ?_))
theorem impl_allWithin.mono : ∀ a0 a1 a2 k, LeO (impl_allWithin.f k a0 a1 a2) (impl_allWithin.f (k + 1) a0 a1 a2) := by
 intro a0 a1 a2 k
 have ih0 := impl_allWithin.mono_l k
 unfold impl_allWithin.f
 repeat' (first | (with_reducible first | exact ih0 _ _ _ _ _ | exact LeO.refl _ | exact LeO.none _ | refine LeO.ite ?_ ?_ | refine LeO.bind ?_ (fun _ => ?_)) | exact ih0 _ _ _ _ _ | exact LeO.none _ | refine LeO.ite ?_ ?_ | refine LeO.bind ?_ (fun _ => ?_))
set_option maxHeartbeats 8000000 in
set_option maxRecDepth 100000 in
theorem impl_allWithin.calls (k : Nat) (A0 : Option Addr) (c0 : Nat) (l0 : List Int) (a1 : Int) (a2 : Int) (r : Bool) (w : World) (hr0 : Kd.C (Kd.int .i64) w A0 l0.length l0) (hc0 : l0.length ≤ c0) (h : impl_allWithin.f k l0 a1 a2 = some r) :
  Calls Try.prog 124 #[.slice A0 l0.length c0, .int .i64 a1, .int .i64 a2] w fun e w' => e = .returned (.bool r) ∧ Drawn0 w w' := by
 have HR0 := Aside0.mk hr0; have HC0 := Aside0.mk hc0; clear hr0 hc0
 have H : (impl_allWithin.l0 k a1 a2 l0 (l0.length : Int) 0) = some r := h
 clear h
 have H' := Aside0.mk H
 clear H
 go_enter Try.func124, Try.ntmps124
 go_wp2
 go_loopg [11] k (fun kq v11 w' => ∃ (x11_1 : Int), v11 = .int .i64 x11_1 ∧ Aside0 (impl_allWithin.l0 kq a1 a2 l0 (l0.length : Int) x11_1 = some r) ∧ Aside0 (kq ≤ k) ∧ Drawn0 w w')
 case atStart => exact ⟨(0), er, H', ⟨Nat.le_refl _⟩, drw⟩
 case round =>
  clear H'
  obtain ⟨x11_1, rfl, HA, HK1, ⟨m1, rfl⟩⟩ := hrel
  cases gk with
  | zero => exact absurd HA.out (by simp [impl_allWithin.l0])
  | succ k1 =>
   have H := HA.out; clear HA
   simp only [impl_allWithin.l0] at H
   by_cases c4 : x11_1 < (l0.length : Int)
   ·rw [if_pos c4] at H
    have c4b0 : decide (x11_1 < (l0.length : Int)) = true := decide_eq_true c4
    clear c4; replace H := ifS H; obtain ⟨c5, H⟩ := H; have c5b0 := decide_eq_true c5; clear c5; replace H := ifS H; obtain ⟨c6, H⟩ := H; have c6b0 := decide_eq_true c6; clear c6; replace H := bS H; obtain ⟨t163, A7, H⟩ := H
    replace H : (if t163 = true then (impl_allWithin.l0 k1 a1 a2 l0 (l0.length : Int) (wrap64 (x11_1 + 1))) else (some false)) = some r := H
    by_cases c8 : t163 = true
    ·subst c8
     have H1 : (impl_allWithin.l0 k1 a1 a2 l0 (l0.length : Int) (wrap64 (x11_1 + 1))) = some r := by rw [if_pos rfl] at H; exact H
     clear H
     have H := H1
     clear H1
     have H' := Aside0.mk H
     clear H
     have p162 : 0 ≤ (x11_1 : Int) := da
     have q162 : x11_1 < (l0.length : Int) := da
     obtain ⟨ad162, e162, hx162_0⟩ := Kd.at_int HR0.out x11_1 p162 q162
     cases e162
     replace p162 := eq_true p162; replace q162 := eq_true q162
     go_wp2_with (first | ((with_reducible refine gate_callee (f := 87) rfl ?_); refine goesLa (some 18) rfl Try.func87 #[.int .i64 (rd l0 x11_1), .int .i64 a1, .int .i64 a2] rfl ?_; (with_reducible refine (impl_within.calls (rd l0 x11_1) a1 a2 true _ A7.out).mono ?_); rintro e w' ⟨rfl, ⟨nd, rfl⟩⟩; refine ⟨_, rfl, ?_⟩))
     go_roundg k1
     case measure => have := HK1.out; omega
     case rel => exact ⟨(wrap64 (x11_1 + 1)), er, H', ⟨by have := HK1.out; omega⟩, drw⟩
    ·replace c8 := Bool.eq_false_iff.mpr c8
     subst c8
     have H1 : (some false) = some r := by rw [if_neg (show ¬ (false = true) by decide)] at H; exact H
     clear H
     have H := H1
     clear H1
     obtain rfl := Option.some.inj H
     have p162 : 0 ≤ (x11_1 : Int) := da
     have q162 : x11_1 < (l0.length : Int) := da
     obtain ⟨ad162, e162, hx162_0⟩ := Kd.at_int HR0.out x11_1 p162 q162
     cases e162
     replace p162 := eq_true p162; replace q162 := eq_true q162
     go_wp2_with (first | ((with_reducible refine gate_callee (f := 87) rfl ?_); refine goesLa (some 18) rfl Try.func87 #[.int .i64 (rd l0 x11_1), .int .i64 a1, .int .i64 a2] rfl ?_; (with_reducible refine (impl_within.calls (rd l0 x11_1) a1 a2 false _ A7.out).mono ?_); rintro e w' ⟨rfl, ⟨nd, rfl⟩⟩; refine ⟨_, rfl, ?_⟩))
     go_ret
     exact ⟨er, drw⟩
   ·rw [if_neg c4] at H
    have c4b0 : decide (x11_1 < (l0.length : Int)) = false := decide_eq_false c4
    clear c4
    obtain rfl := Option.some.inj H
    go_wp2
    go_ret
    exact ⟨er, drw⟩

-- NOT PRINTED: function 147 (slices_IndexFunc_int_int)

-- NOT PRINTED: function 125 (slices_ContainsFunc_int_int)

/-! ### slices_Equal_int_int: function 127 -/
def slices_Equal_int_int.l0 : Nat → List Int → List Int → Int → Int → Option (Bool)
  | 0, _, _, _, _ => none
  | k + 1, x0, x1, x12, x13 => if x13 < x12 then (if 0 ≤ x13 then (if x13 < (x0.length : Int) then (if x13 < (x1.length : Int) then (if (rd x0 x13) = (rd x1 x13) then (slices_Equal_int_int.l0 k x0 x1 x12 (wrap64 (x13 + 1))) else (some false)) else (none)) else (none)) else (none)) else (some true)
def slices_Equal_int_int.f (k : Nat) (l0 : List Int) (l1 : List Int) : Option (Bool) := if (l0.length : Int) = (l1.length : Int) then (slices_Equal_int_int.l0 k l0 l1 (l0.length : Int) 0) else (some false)
theorem slices_Equal_int_int.mono_l : ∀ k, (∀ y0 y1 y2 y3, LeO (slices_Equal_int_int.l0 k y0 y1 y2 y3) (slices_Equal_int_int.l0 (k + 1) y0 y1 y2 y3))
 | 0 => fun _ _ _ _ r h => by simp [slices_Equal_int_int.l0] at h
 | k + 1 => by
  have ih0 := slices_Equal_int_int.mono_l k
  ·intro y0 y1 y2 y3
   unfold slices_Equal_int_int.l0
   repeat' (first | (with_reducible first | exact ih0 _ _ _ _ | exact LeO.refl _ | exact LeO.none _ | refine LeO.ite ?_ ?_ | refine LeO.bind ?_ (fun _ => ?_)) | exact ih0 _ _ _ _ | exact LeO.none _ | refine LeO.ite ?_ ?_ | refine LeO.bind ?_ (fun _ => ?_))
theorem slices_Equal_int_int.mono : ∀ a0 a1 k, LeO (slices_Equal_int_int.f k a0 a1) (slices_Equal_int_int.f (k + 1) a0 a1) := by
 intro a0 a1 k
 have ih0 := slices_Equal_int_int.mono_l k
 unfold slices_Equal_int_int.f
 repeat' (first | (with_reducible first | exact ih0 _ _ _ _ | exact LeO.refl _ | exact LeO.none _ | refine LeO.ite ?_ ?_ | refine LeO.bind ?_ (fun _ => ?_)) | exact ih0 _ _ _ _ | exact LeO.none _ | refine LeO.ite ?_ ?_ | refine LeO.bind ?_ (fun _ => ?_))
set_option maxHeartbeats 8000000 in
set_option maxRecDepth 100000 in
theorem slices_Equal_int_int.calls (k : Nat) (A0 : Option Addr) (c0 : Nat) (l0 : List Int) (A1 : Option Addr) (c1 : Nat) (l1 : List Int) (r : Bool) (w : World) (hr0 : Kd.C (Kd.int .i64) w A0 l0.length l0) (hc0 : l0.length ≤ c0) (hr1 : Kd.C (Kd.int .i64) w A1 l1.length l1) (hc1 : l1.length ≤ c1) (h : slices_Equal_int_int.f k l0 l1 = some r) :
  Calls Try.prog 127 #[.slice A0 l0.length c0, .slice A1 l1.length c1] w fun e w' => e = .returned (.bool r) ∧ Drawn0 w w' := by
 have HR0 := Aside0.mk hr0; have HC0 := Aside0.mk hc0; clear hr0 hc0; have HR1 := Aside0.mk hr1; have HC1 := Aside0.mk hc1; clear hr1 hc1
 have H : (if (l0.length : Int) = (l1.length : Int) then (slices_Equal_int_int.l0 k l0 l1 (l0.length : Int) 0) else (some false)) = some r := h
 clear h
 by_cases c3 : (l0.length : Int) = (l1.length : Int)
 ·rw [if_pos c3] at H
  have c3b0 : ((l0.length : Int) == (l1.length : Int)) = true := beq_iff_eq.mpr c3
  have c3b1 : ((l0.length : Int) != (l1.length : Int)) = false := bne_eq_false_iff_eq.mpr c3
  have c3b2 : (l0.length == l1.length) = true := by first | simpa using c3 | (simp at c3 ⊢; omega)
  clear c3
  have H' := Aside0.mk H
  clear H
  go_enter Try.func127, Try.ntmps127
  go_wp2
  repeat (go_quiet (fail); try go_wp2)
  go_loopg [13] k (fun kq v13 w' => ∃ (x13_1 : Int), v13 = .int .i64 x13_1 ∧ Aside0 (slices_Equal_int_int.l0 kq l0 l1 (l0.length : Int) x13_1 = some r) ∧ Aside0 (kq ≤ k) ∧ Drawn0 w w')
  case atStart => exact ⟨(0), er, H', ⟨Nat.le_refl _⟩, drw⟩
  case round =>
   clear H'
   (try clear c1); (try clear c3b0); (try clear c3b1); (try clear c3b2)
   obtain ⟨x13_1, rfl, HA, HK1, ⟨m1, rfl⟩⟩ := hrel
   cases gk with
   | zero => exact absurd HA.out (by simp [slices_Equal_int_int.l0])
   | succ k1 =>
    have H := HA.out; clear HA
    simp only [slices_Equal_int_int.l0] at H
    by_cases c4 : x13_1 < (l0.length : Int)
    ·rw [if_pos c4] at H
     have c4b0 : decide (x13_1 < (l0.length : Int)) = true := decide_eq_true c4
     clear c4; replace H := ifS H; obtain ⟨c5, H⟩ := H; have c5b0 := decide_eq_true c5; clear c5; replace H := ifS H; obtain ⟨c6, H⟩ := H; have c6b0 := decide_eq_true c6; clear c6; replace H := ifS H; obtain ⟨c7, H⟩ := H; have c7b0 := decide_eq_true c7; clear c7
     by_cases c8 : (rd l0 x13_1) = (rd l1 x13_1)
     ·rw [if_pos c8] at H
      have c8b0 : ((rd l0 x13_1) == (rd l1 x13_1)) = true := beq_iff_eq.mpr c8
      have c8b1 : ((rd l0 x13_1) != (rd l1 x13_1)) = false := bne_eq_false_iff_eq.mpr c8
      clear c8
      have H' := Aside0.mk H
      clear H
      have p164 : 0 ≤ (x13_1 : Int) := da
      have q164 : x13_1 < (l0.length : Int) := da
      obtain ⟨ad164, e164, hx164_0⟩ := Kd.at_int HR0.out x13_1 p164 q164
      cases e164
      replace p164 := eq_true p164; replace q164 := eq_true q164
      have p165 : 0 ≤ (x13_1 : Int) := da
      have q165 : x13_1 < (l1.length : Int) := da
      obtain ⟨ad165, e165, hx165_0⟩ := Kd.at_int HR1.out x13_1 p165 q165
      cases e165
      replace p165 := eq_true p165; replace q165 := eq_true q165; go_wp2
      repeat (go_quiet (fail); try go_wp2)
      go_roundg k1
      case measure => have := HK1.out; omega
      case rel => exact ⟨(wrap64 (x13_1 + 1)), er, H', ⟨by have := HK1.out; omega⟩, drw⟩
     ·rw [if_neg c8] at H
      have c8b0 : ((rd l0 x13_1) == (rd l1 x13_1)) = false := beq_eq_false_iff_ne.mpr c8
      have c8b1 : ((rd l0 x13_1) != (rd l1 x13_1)) = true := bne_iff_ne.mpr c8
      obtain rfl := Option.some.inj H
      have p164 : 0 ≤ (x13_1 : Int) := da
      have q164 : x13_1 < (l0.length : Int) := da
      obtain ⟨ad164, e164, hx164_0⟩ := Kd.at_int HR0.out x13_1 p164 q164
      cases e164
      replace p164 := eq_true p164; replace q164 := eq_true q164
      have p165 : 0 ≤ (x13_1 : Int) := da
      have q165 : x13_1 < (l1.length : Int) := da
      obtain ⟨ad165, e165, hx165_0⟩ := Kd.at_int HR1.out x13_1 p165 q165
      cases e165
      replace p165 := eq_true p165; replace q165 := eq_true q165; go_wp2
      repeat (go_quiet (fail); try go_wp2)
      go_ret
      exact ⟨er, drw⟩
    ·rw [if_neg c4] at H
     have c4b0 : decide (x13_1 < (l0.length : Int)) = false := decide_eq_false c4
     clear c4
     obtain rfl := Option.some.inj H
     go_wp2
     repeat (go_quiet (fail); try go_wp2)
     go_ret
     exact ⟨er, drw⟩
 ·rw [if_neg c3] at H
  have c3b0 : ((l0.length : Int) == (l1.length : Int)) = false := beq_eq_false_iff_ne.mpr c3
  have c3b1 : ((l0.length : Int) != (l1.length : Int)) = true := bne_iff_ne.mpr c3
  have c3b2 : (l0.length == l1.length) = false := by first | simpa using c3 | (simp at c3 ⊢; omega)
  obtain rfl := Option.some.inj H
  go_enter Try.func127, Try.ntmps127
  go_wp2
  repeat (go_quiet (fail); try go_wp2)
  go_ret
  exact ⟨er, drw⟩

end Go.Proofs.Ytpibdgknmjjolaa.QFnGroups
