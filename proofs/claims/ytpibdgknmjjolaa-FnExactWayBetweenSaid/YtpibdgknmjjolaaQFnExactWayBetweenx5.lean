-- printed by this session's own program (wip/tools/pp.py: the kit's print.py with changes); Lean checks it
import Derived.Test.YtpibdgknmjjolaaQFnExactWayBetweenx0
namespace Go.Proofs.Ytpibdgknmjjolaa.QFnExactWayBetween
open Go.RowKit Go.Proofs.YtpibdgknmjjolaaW.PrintWords Go.Proofs.YtpibdgknmjjolaaW.PrintLast Go.Proofs.YtpibdgknmjjolaaW.PrintMore
attribute [local go_sem] max2_int min2_int max_two min_two max_three min_three max_four min_four strLss strGtr strLeq strGeq   -- for this text's walks alone
set_option linter.unusedVariables false
set_option linter.unusedSimpArgs false

/-! ### spec_l15Far: function 106 -/
mutual
def spec_l15Far.l0 : Nat → Int → List Int → Int → Int → List (List Int) → List Int → Option (List Int)
  | 0, _, _, _, _, _, _ => none
  | k + 1, x1, x5, x6, x164000, x164001, x164002 => if x6 < x164000 then (if x5.length < 17592186044416 then (spec_l15Far.l0 k x1 (x5 ++ [(-1)]) (wrap64 (x6 + 1)) x164000 x164001 x164002) else (none)) else (if 0 ≤ x1 then (if x1 < (x5.length : Int) then (spec_l15Far.l1 k (x5.set (x1 : Int).toNat 0) 0 x164000 x164001 x164002) else (none)) else (none))
def spec_l15Far.l1 : Nat → List Int → Int → Int → List (List Int) → List Int → Option (List Int)
  | 0, _, _, _, _, _ => none
  | k + 1, x5, x7, x164000, x164001, x164002 => if x7 < x164000 then (spec_l15Far.l2 k x5 x7 x164001 (x164001.length : Int) 0 x164000 x164001 x164002) else (some x5)
def spec_l15Far.l2 : Nat → List Int → Int → List (List Int) → Int → Int → Int → List (List Int) → List Int → Option (List Int)
  | 0, _, _, _, _, _, _, _, _ => none
  | k + 1, x5, x7, x29, x30, x31, x164000, x164001, x164002 => if x31 < x30 then (if 0 ≤ x31 then (if x31 < (x29.length : Int) then (if 0 < ((rd_L1 x29 x31).length : Int) then (if 0 ≤ (rd (rd_L1 x29 x31) 0) then (if (rd (rd_L1 x29 x31) 0) < (x5.length : Int) then (if (rd x5 (rd (rd_L1 x29 x31) 0)) = x7 then (if 1 < ((rd_L1 x29 x31).length : Int) then (if 0 ≤ (rd (rd_L1 x29 x31) 1) then (if (rd (rd_L1 x29 x31) 1) < (x5.length : Int) then (spec_l15Far.j3 k x5 x7 (rd_L1 x29 x31) x29 x30 x31 (decide ((rd x5 (rd (rd_L1 x29 x31) 1)) < 0)) x164000 x164001 x164002) else (none)) else (none)) else (none)) else (spec_l15Far.j3 k x5 x7 (rd_L1 x29 x31) x29 x30 x31 false x164000 x164001 x164002)) else (none)) else (none)) else (none)) else (none)) else (none)) else (spec_l15Far.l1 k x5 (wrap64 (x7 + 1)) x164000 x164001 x164002)
def spec_l15Far.j3 : Nat → List Int → Int → List Int → List (List Int) → Int → Int → Bool → Int → List (List Int) → List Int → Option (List Int)
  | 0, _, _, _, _, _, _, _, _, _, _ => none
  | k + 1, x5, x7, x9, x29, x30, x31, x51, x164000, x164001, x164002 => if x51 = true then (if 1 < (x9.length : Int) then (if 0 ≤ (rd x9 1) then (if (rd x9 1) < (x5.length : Int) then ((some (x5.set ((rd x9 1) : Int).toNat (wrap64 (x7 + 1)) : List Int)).bind fun y174 => (if (rd y174 (rd x9 1)) = x7 then (if 0 < (x9.length : Int) then (if 0 ≤ (rd x9 0) then (if (rd x9 0) < (x5.length : Int) then (if (rd y174 (rd x9 0)) < 0 then (spec_l15Far.l2 k (y174.set ((rd x9 0) : Int).toNat (wrap64 (x7 + 1))) x7 x29 x30 (wrap64 (x31 + 1)) x164000 x164001 x164002) else (spec_l15Far.l2 k y174 x7 x29 x30 (wrap64 (x31 + 1)) x164000 x164001 x164002)) else (none)) else (none)) else (none)) else (spec_l15Far.l2 k y174 x7 x29 x30 (wrap64 (x31 + 1)) x164000 x164001 x164002))) else (none)) else (none)) else (none)) else (if 1 < (x9.length : Int) then (if 0 ≤ (rd x9 1) then (if (rd x9 1) < (x5.length : Int) then (if (rd x5 (rd x9 1)) = x7 then (if 0 < (x9.length : Int) then (if 0 ≤ (rd x9 0) then (if (rd x9 0) < (x5.length : Int) then (if (rd x5 (rd x9 0)) < 0 then (spec_l15Far.l2 k (x5.set ((rd x9 0) : Int).toNat (wrap64 (x7 + 1))) x7 x29 x30 (wrap64 (x31 + 1)) x164000 x164001 x164002) else (spec_l15Far.l2 k x5 x7 x29 x30 (wrap64 (x31 + 1)) x164000 x164001 x164002)) else (none)) else (none)) else (none)) else (spec_l15Far.l2 k x5 x7 x29 x30 (wrap64 (x31 + 1)) x164000 x164001 x164002)) else (none)) else (none)) else (none))
end
def spec_l15Far.f (k : Nat) (a0_0 : Int) (l0_1 : List (List Int)) (l0_2 : List Int) (a1 : Int) : Option (List Int) := spec_l15Far.l0 k a1 ([] : List Int) 0 a0_0 l0_1 l0_2
theorem spec_l15Far.mono_l : ∀ k, (∀ y0 y1 y2 y3 y4 y5, LeO (spec_l15Far.l0 k y0 y1 y2 y3 y4 y5) (spec_l15Far.l0 (k + 1) y0 y1 y2 y3 y4 y5)) ∧ (∀ y0 y1 y2 y3 y4, LeO (spec_l15Far.l1 k y0 y1 y2 y3 y4) (spec_l15Far.l1 (k + 1) y0 y1 y2 y3 y4)) ∧ (∀ y0 y1 y2 y3 y4 y5 y6 y7, LeO (spec_l15Far.l2 k y0 y1 y2 y3 y4 y5 y6 y7) (spec_l15Far.l2 (k + 1) y0 y1 y2 y3 y4 y5 y6 y7)) ∧ (∀ y0 y1 y2 y3 y4 y5 y6 y7 y8 y9, LeO (spec_l15Far.j3 k y0 y1 y2 y3 y4 y5 y6 y7 y8 y9) (spec_l15Far.j3 (k + 1) y0 y1 y2 y3 y4 y5 y6 y7 y8 y9))
  | 0 => ⟨fun _ _ _ _ _ _ r h => by simp [spec_l15Far.l0] at h, fun _ _ _ _ _ r h => by simp [spec_l15Far.l1] at h, fun _ _ _ _ _ _ _ _ r h => by simp [spec_l15Far.l2] at h, fun _ _ _ _ _ _ _ _ _ _ r h => by simp [spec_l15Far.j3] at h⟩
  | k + 1 => by
    obtain ⟨ih0, ih1, ih2, ih3⟩ := spec_l15Far.mono_l k
    refine ⟨?_, ?_, ?_, ?_⟩
    · intro y0 y1 y2 y3 y4 y5
      unfold spec_l15Far.l0
      repeat' first
      | (with_reducible exact ih0 _ _ _ _ _ _)
      | (with_reducible exact ih1 _ _ _ _ _)
      | (with_reducible exact ih2 _ _ _ _ _ _ _ _)
      | (with_reducible exact ih3 _ _ _ _ _ _ _ _ _ _)
      | (with_reducible exact LeO.refl _)
      | (with_reducible exact LeO.none _)
      | (with_reducible refine LeO.ite ?_ ?_)
      | (with_reducible refine LeO.bind ?_ (fun _ => ?_))
      | exact ih0 _ _ _ _ _ _
      | exact ih1 _ _ _ _ _
      | exact ih2 _ _ _ _ _ _ _ _
      | exact ih3 _ _ _ _ _ _ _ _ _ _
      | exact LeO.none _
      | refine LeO.ite ?_ ?_
      | refine LeO.bind ?_ (fun _ => ?_)
    · intro y0 y1 y2 y3 y4
      unfold spec_l15Far.l1
      repeat' first
      | (with_reducible exact ih0 _ _ _ _ _ _)
      | (with_reducible exact ih1 _ _ _ _ _)
      | (with_reducible exact ih2 _ _ _ _ _ _ _ _)
      | (with_reducible exact ih3 _ _ _ _ _ _ _ _ _ _)
      | (with_reducible exact LeO.refl _)
      | (with_reducible exact LeO.none _)
      | (with_reducible refine LeO.ite ?_ ?_)
      | (with_reducible refine LeO.bind ?_ (fun _ => ?_))
      | exact ih0 _ _ _ _ _ _
      | exact ih1 _ _ _ _ _
      | exact ih2 _ _ _ _ _ _ _ _
      | exact ih3 _ _ _ _ _ _ _ _ _ _
      | exact LeO.none _
      | refine LeO.ite ?_ ?_
      | refine LeO.bind ?_ (fun _ => ?_)
    · intro y0 y1 y2 y3 y4 y5 y6 y7
      unfold spec_l15Far.l2
      repeat' first
      | (with_reducible exact ih0 _ _ _ _ _ _)
      | (with_reducible exact ih1 _ _ _ _ _)
      | (with_reducible exact ih2 _ _ _ _ _ _ _ _)
      | (with_reducible exact ih3 _ _ _ _ _ _ _ _ _ _)
      | (with_reducible exact LeO.refl _)
      | (with_reducible exact LeO.none _)
      | (with_reducible refine LeO.ite ?_ ?_)
      | (with_reducible refine LeO.bind ?_ (fun _ => ?_))
      | exact ih0 _ _ _ _ _ _
      | exact ih1 _ _ _ _ _
      | exact ih2 _ _ _ _ _ _ _ _
      | exact ih3 _ _ _ _ _ _ _ _ _ _
      | exact LeO.none _
      | refine LeO.ite ?_ ?_
      | refine LeO.bind ?_ (fun _ => ?_)
    · intro y0 y1 y2 y3 y4 y5 y6 y7 y8 y9
      unfold spec_l15Far.j3
      repeat' first
      | (with_reducible exact ih0 _ _ _ _ _ _)
      | (with_reducible exact ih1 _ _ _ _ _)
      | (with_reducible exact ih2 _ _ _ _ _ _ _ _)
      | (with_reducible exact ih3 _ _ _ _ _ _ _ _ _ _)
      | (with_reducible exact LeO.refl _)
      | (with_reducible exact LeO.none _)
      | (with_reducible refine LeO.ite ?_ ?_)
      | (with_reducible refine LeO.bind ?_ (fun _ => ?_))
      | exact ih0 _ _ _ _ _ _
      | exact ih1 _ _ _ _ _
      | exact ih2 _ _ _ _ _ _ _ _
      | exact ih3 _ _ _ _ _ _ _ _ _ _
      | exact LeO.none _
      | refine LeO.ite ?_ ?_
      | refine LeO.bind ?_ (fun _ => ?_)
theorem spec_l15Far.mono : ∀ a0 a1 a2 a3 k, LeO (spec_l15Far.f k a0 a1 a2 a3) (spec_l15Far.f (k + 1) a0 a1 a2 a3) := by
  intro a0 a1 a2 a3 k
  obtain ⟨ih0, ih1, ih2, ih3⟩ := spec_l15Far.mono_l k
  unfold spec_l15Far.f
  repeat' first
      | (with_reducible exact ih0 _ _ _ _ _ _)
      | (with_reducible exact ih1 _ _ _ _ _)
      | (with_reducible exact ih2 _ _ _ _ _ _ _ _)
      | (with_reducible exact ih3 _ _ _ _ _ _ _ _ _ _)
      | (with_reducible exact LeO.refl _)
      | (with_reducible exact LeO.none _)
      | (with_reducible refine LeO.ite ?_ ?_)
      | (with_reducible refine LeO.bind ?_ (fun _ => ?_))
      | exact ih0 _ _ _ _ _ _
      | exact ih1 _ _ _ _ _
      | exact ih2 _ _ _ _ _ _ _ _
      | exact ih3 _ _ _ _ _ _ _ _ _ _
      | exact LeO.none _
      | refine LeO.ite ?_ ?_
      | refine LeO.bind ?_ (fun _ => ?_)
set_option maxHeartbeats 8000000 in
set_option maxRecDepth 100000 in
theorem spec_l15Far.calls (k : Nat) (a0_0 : Int) (A0_1 : Option Addr) (c0_1 : Nat) (l0_1 : List (List Int)) (A0_2 : Option Addr) (c0_2 : Nat) (l0_2 : List Int) (a1 : Int) (r : List Int) (w : World) (hr0_1 : Kd.C (Kd.slice 3 (Kd.int .i64)) w A0_1 l0_1.length l0_1) (hc0_1 : l0_1.length ≤ c0_1) (hr0_2 : Kd.C (Kd.int .i64) w A0_2 l0_2.length l0_2) (hc0_2 : l0_2.length ≤ c0_2) (h : spec_l15Far.f k a0_0 l0_1 l0_2 a1 = some r) :
    Calls Try.prog 106 #[.agg #[.int .i64 a0_0, .slice A0_1 l0_1.length c0_1, .slice A0_2 l0_2.length c0_2], .int .i64 a1] w fun e w' => ∃ v0_ : Value, e = .returned (v0_) ∧ Kd.R (Kd.int .i64) 3 w' w.heap.size (fun _ => True) v0_ r ∧ Below w.heap.size w w' := by
  have hu38 := Try.underlying38
  have HR0_1 := Aside0.mk hr0_1
  have HC0_1 := Aside0.mk hc0_1
  clear hr0_1 hc0_1
  have HR0_2 := Aside0.mk hr0_2
  have HC0_2 := Aside0.mk hc0_2
  clear hr0_2 hc0_2
  have HB := Aside0.mk (Below.refl w.heap.size w)
  have H : (spec_l15Far.l0 k a1 ([] : List Int) 0 a0_0 l0_1 l0_2) = some r := h
  clear h
  have H' := Aside0.mk H
  clear H
  go_enter Try.func106, Try.ntmps106
  go_wp2_with (first | ((with_reducible refine gate_dst (N := 2) rfl ?_); refine box_event ?hg (N := 2) ?hd (cs := #[.int .i64 a0_0, .slice A0_1 l0_1.length c0_1, .slice A0_2 l0_2.length c0_2]) (t := 38) ?hr ?_; (case hd => rfl); (case hg => rfl); (case hr => first | (go_simp; done) | (go_simp; rfl)); intro gb163 hg w3 hbox hb; have n0_ := Aside0.mk (below_step (by repeat (first | (with_reducible first | exact HB.out | apply below_alloc | apply pw_below_drewN | apply below_drew1) | exact HB.out)) hb); have n1_ := Aside0.mk (hbox); have n2_ := Aside0.mk ((by rw [hg]; exact (below_size (by repeat (first | (with_reducible first | exact HB.out | apply below_alloc | apply pw_below_drewN | apply below_drew1) | exact HB.out))) : w.heap.size ≤ gb163)); have n3_ := Aside0.mk ((by rw [hg]; exact (below_size (by repeat (first | (with_reducible first | exact HB.out | apply below_alloc | apply pw_below_drewN | apply below_drew1) | exact HB.out))) : w.heap.size ≤ gb163)); clear HB; have HB := n0_; have BK163 := n1_; have GW163 := n2_; have GE163 := n3_; clear n0_ n1_ n2_ n3_; clear hb hbox hg))
  go_loopg [5, 6] k (fun kq v5 v6 w' => ∃ (x5_1 : List Int) (x6_1 : Int), v6 = .int .i64 x6_1 ∧ Aside0 (spec_l15Far.l0 kq a1 x5_1 x6_1 a0_0 l0_1 l0_2 = some r) ∧ Aside0 (kq ≤ k) ∧ Aside0 (Kd.R (Kd.int .i64) 3 w' w.heap.size (fun _ => True) v5 x5_1) ∧ Aside0 (w'.heap[gb163]? = some (.cells #[.int .i64 a0_0, (.slice A0_1 l0_1.length c0_1), (.slice A0_2 l0_2.length c0_2)] 38 (0, 0))) ∧ Aside0 (Below w.heap.size w w'))
  case atStart => exact ⟨(([] : List Int)), (0), (by first | rfl | (simp; done) | (simp [*]; done)), H', ⟨Nat.le_refl _⟩, ⟨by first | exact Kd.R_nil _ _ _ _ _ | exact Kd.N_nil _ _ _ _ _ | exact Kd.V_nil _ _ _ _ _ | exact Kd.Q_nil _ _ _ _ _ | exact Kd.S_nil _ _ _ _ _⟩, ⟨by (with_reducible repeat (first | refine blk_drewN ?_ _ | refine blk_drew ?_ | refine blk_alloc ?_ _)); exact BK163.out⟩, ⟨by repeat (first | (with_reducible first | exact HB.out | apply below_alloc | apply pw_below_drewN | apply below_drew1 | refine below_set ?_ GE163.out) | exact HB.out)⟩⟩
  case round =>
    clear H'
    try clear c1
    try clear p2
    obtain ⟨x5_1, x6_1, rfl, HA, HK1, HO_5, BK163, HB⟩ := hrel
    cases gk with
    | zero => exact absurd HA.out (by simp [spec_l15Far.l0])
    | succ k1 =>
      have H := HA.out
      clear HA
      simp only [spec_l15Far.l0] at H
      by_cases c4 : x6_1 < a0_0
      · rw [if_pos c4] at H
        have c4b0 : decide (x6_1 < a0_0) = true := decide_eq_true c4
        clear c4
        by_cases c5 : x5_1.length < 17592186044416
        · rw [if_pos c5] at H
          have LMc5 := Aside0.mk c5
          clear c5
          obtain ⟨y164, hy164⟩ : ∃ y_ : List Int, y_ = (x5_1 ++ [(-1)]) := ⟨_, rfl⟩
          replace H : (spec_l15Far.l0 k1 a1 y164 (wrap64 (x6_1 + 1)) a0_0 l0_1 l0_2) = some r := by first | (rw [hy164]; with_reducible exact H) | (have H2_ := (Option.bind_some _ _).symm.trans H; rw [hy164]; with_reducible exact H2_) | (have H2_ := (Option.bind_some _ _).symm.trans H; with_reducible exact H2_) | with_reducible exact H | (rw [hy164]; exact H) | exact H
          have Ny164 := Aside0.mk hy164
          clear hy164
          have H' := Aside0.mk H
          clear H
          have hcz6_0 : wr.cell? ⟨gb163, 0, none⟩ = some (.int .i64 a0_0) := (blk_cell BK163.out 0).trans rfl
          have hcz6_1 : wr.cell? ⟨gb163, 1, none⟩ = some (.slice A0_1 l0_1.length c0_1) := (blk_cell BK163.out 1).trans rfl
          have hcz6_2 : wr.cell? ⟨gb163, 2, none⟩ = some (.slice A0_2 l0_2.length c0_2) := (blk_cell BK163.out 2).trans rfl
          have hfz6_0 := blk_frozen BK163.out 0
          have hfz6_1 := blk_frozen BK163.out 1
          have hfz6_2 := blk_frozen BK163.out 2
          go_wp2_with (first | ((with_reducible refine gate_builtin (b := .append) (xs := #[.tmp 16, .tmp 17]) rfl ?_); at_builtin; refine Kd.R_append (Kd.int .i64) (w0 := w) w.heap.size rfl (.tmp 16) (.tmp 17) 22 3 (.int .i64 0) 8 rfl Try.underlying22 info3 rfl (by decide) (by omega) u5 x5_1 (-1) [.int .i64 (-1)] (fun _ => True) (fun _ => False) rfl rfl ?aP (fun _ hk => hk.elim) ?aF ?aO ?aB ?aS ?aL ?_; (case aP => exact rfl); (case aB => exact (by repeat (first | (with_reducible first | exact HB.out | apply below_alloc | apply pw_below_drewN | apply below_drew1 | refine below_set ?_ GE163.out) | exact HB.out))); (case aF => exact (fun _ _ => trivial)); (case aO => exact (by (with_reducible repeat (first | apply Kd.R_alloc | apply Kd.R_drewN | apply Kd.R_drew)); exact HO_5.out)); (case aS => exact (below_size (by repeat (first | (with_reducible first | exact HB.out | apply below_alloc | apply pw_below_drewN | apply below_drew1 | refine below_set ?_ GE163.out) | exact HB.out)))); (case aL => have := LMc5.out; omega); intro v165 w7 ho hb hg hat; rw [← Ny164.out] at ho; have n0_ := Aside0.mk (blk_grown (g := gb163) (o := .cells #[.int .i64 a0_0, .slice A0_1 l0_1.length c0_1, .slice A0_2 l0_2.length c0_2] 38 (0, 0)) (by (with_reducible repeat (first | refine blk_drewN ?_ _ | refine blk_drew ?_ | refine blk_alloc ?_ _)); exact BK163.out) hg (Kd.R_ne HO_5.out BK163.out (by decide))); have n1_ := Aside0.mk (hb); have n2_ := Aside0.mk (ho); clear BK163; clear HB; clear HO_5; have BK163 := n0_; have HB := n1_; have HO166 := n2_; clear n0_ n1_ n2_; clear ho hb hg hat))
          go_roundg k1
          case measure => have := HK1.out; omega
          case rel => exact ⟨(y164), (wrap64 (x6_1 + 1)), (by first | rfl | (simp; done) | (simp [*]; done)), H', ⟨by have := HK1.out; omega⟩, ⟨by (with_reducible repeat (first | apply Kd.R_alloc | apply Kd.R_drewN | apply Kd.R_drew)); exact HO166.out⟩, ⟨by (with_reducible repeat (first | refine blk_drewN ?_ _ | refine blk_drew ?_ | refine blk_alloc ?_ _)); exact BK163.out⟩, ⟨by repeat (first | (with_reducible first | exact HB.out | apply below_alloc | apply pw_below_drewN | apply below_drew1 | refine below_set ?_ GE163.out) | exact HB.out)⟩⟩
        · rw [if_neg c5] at H
          exact absurd H (by simp)
      · rw [if_neg c4] at H
        have c4b0 : decide (x6_1 < a0_0) = false := decide_eq_false c4
        clear c4
        by_cases c8 : 0 ≤ a1
        · rw [if_pos c8] at H
          have c8b0 : decide (0 ≤ a1) = true := decide_eq_true c8
          clear c8
          by_cases c9 : a1 < (x5_1.length : Int)
          · rw [if_pos c9] at H
            have c9b0 : decide (a1 < (x5_1.length : Int)) = true := decide_eq_true c9
            clear c9
            obtain ⟨y167, hy167⟩ : ∃ y_ : List Int, y_ = (x5_1.set (a1 : Int).toNat 0) := ⟨_, rfl⟩
            replace H : (spec_l15Far.l1 k1 y167 0 a0_0 l0_1 l0_2) = some r := by first | (rw [hy167]; with_reducible exact H) | (have H2_ := (Option.bind_some _ _).symm.trans H; rw [hy167]; with_reducible exact H2_) | (have H2_ := (Option.bind_some _ _).symm.trans H; with_reducible exact H2_) | with_reducible exact H | (rw [hy167]; exact H) | exact H
            have Ny167 := Aside0.mk hy167
            clear hy167
            have H' := Aside0.mk H
            clear H
            have hcz11_0 : wr.cell? ⟨gb163, 0, none⟩ = some (.int .i64 a0_0) := (blk_cell BK163.out 0).trans rfl
            have hcz11_1 : wr.cell? ⟨gb163, 1, none⟩ = some (.slice A0_1 l0_1.length c0_1) := (blk_cell BK163.out 1).trans rfl
            have hcz11_2 : wr.cell? ⟨gb163, 2, none⟩ = some (.slice A0_2 l0_2.length c0_2) := (blk_cell BK163.out 2).trans rfl
            have hfz11_0 := blk_frozen BK163.out 0
            have hfz11_1 := blk_frozen BK163.out 1
            have hfz11_2 := blk_frozen BK163.out 2
            have p10 : 0 ≤ (a1 : Int) := of_decide_eq_true (by first | (with_reducible assumption) | assumption)
            have q10 : (a1 : Int) < ((x5_1.length : Int) : Int) := of_decide_eq_true (by first | (with_reducible assumption) | assumption)
            obtain ⟨go10, co10, eo10, gb10, gl10, cl10, HG10⟩ := Kd.R_form HO_5.out (by omega)
            (first | cases eo10 | (injection eo10 with ea_ en_ ec_; (first | subst ea_ | (injection ea_ with ea_; subst ea_)); subst ec_; clear en_))
            have GB10 := Aside0.mk gb10
            have GG10 := Aside0.mk HG10
            clear gb10 gl10 HG10
            obtain ⟨hx10_0, hf10_0⟩ := Kd.R_celln 0 HO_5.out (a1 : Int) p10 q10
            replace p10 := eq_true p10
            replace q10 := eq_true q10
            have HP12 := Kd.R_putg HO_5.out (a1 : Int) 0
            go_wp2_with (first | ((with_reducible refine gate_store (t := 3) (p := 21) rfl ?_); refine store_event (t := 3) (p := 21) (v := ?vo_w13) (w1 := (wr.setCell ⟨go10, (a1 : Int).toNat, none⟩ (.int .i64 0))) ?hg ?ho ?hn ?hr ?_; (case ho => rfl); (case hg => rfl); (case hn => rfl); (case hr => first | (go_simp; done) | (go_simp; rfl)); intro w13 hw; have hg : wr.grownBy w13 (some go10) := (by rw [hw]; exact HP12.2); have hp_ : Kd.R (Kd.int .i64) 3 w13 w.heap.size (fun _ => True) (.slice (some ⟨go10, 0, none⟩) x5_1.length co10) y167 := (by rw [hw, Ny167.out]; exact HP12.1); clear HP12; have n0_ := Aside0.mk (hp_); have n1_ := Aside0.mk (blk_grown (g := gb163) (o := .cells #[.int .i64 a0_0, .slice A0_1 l0_1.length c0_1, .slice A0_2 l0_2.length c0_2] 38 (0, 0)) (by (with_reducible repeat (first | refine blk_drewN ?_ _ | refine blk_drew ?_ | refine blk_alloc ?_ _)); exact BK163.out) hg (Kd.R_ne HO_5.out BK163.out (by decide))); have n2_ := Aside0.mk ((by rw [hw]; exact below_set (HB.out) GB10.out : Below w.heap.size w w13)); clear HO_5; clear BK163; clear HB; have HO_5 := n0_; have BK163 := n1_; have HB := n2_; clear n0_ n1_ n2_; clear hg hw hp_))
            go_loopg [7] k1 (fun kq v7 w' => ∃ (x5_2 : List Int) (x7_2 : Int), v7 = .int .i64 x7_2 ∧ Aside0 (spec_l15Far.l1 kq x5_2 x7_2 a0_0 l0_1 l0_2 = some r) ∧ Aside0 (kq ≤ k1) ∧ Aside0 (Kd.R (Kd.int .i64) 3 w' w.heap.size (fun _ => True) (.slice (some ⟨go10, 0, none⟩) x5_1.length co10) x5_2) ∧ Aside0 (w'.heap[gb163]? = some (.cells #[.int .i64 a0_0, (.slice A0_1 l0_1.length c0_1), (.slice A0_2 l0_2.length c0_2)] 38 (0, 0))) ∧ Aside0 (Below w.heap.size w w'))
            case atStart => exact ⟨(y167), (0), (by first | rfl | (simp; done) | (simp [*]; done)), H', ⟨Nat.le_refl _⟩, ⟨by (with_reducible repeat (first | apply Kd.R_alloc | apply Kd.R_drewN | apply Kd.R_drew)); exact HO_5.out⟩, ⟨by (with_reducible repeat (first | refine blk_drewN ?_ _ | refine blk_drew ?_ | refine blk_alloc ?_ _)); exact BK163.out⟩, ⟨by repeat (first | (with_reducible first | exact HB.out | apply below_alloc | apply pw_below_drewN | apply below_drew1 | refine below_set ?_ GE163.out) | exact HB.out)⟩⟩
            case round =>
              clear H'
              try clear c1
              try clear p1
              try clear q1
              try clear hx1
              try clear p2
              try clear c4
              try clear c4b0
              try clear c5
              try clear p6
              try clear c8
              try clear c8b0
              try clear c9
              try clear c9b0
              try clear c10
              try clear p10
              try clear q10
              try clear hx10
              try clear hf10
              try clear hcz11_0
              try clear hcz11_1
              try clear hcz11_2
              try clear hcz6_0
              try clear hcz6_1
              try clear hcz6_2
              try clear hfz11_0
              try clear hfz11_1
              try clear hfz11_2
              try clear hfz6_0
              try clear hfz6_1
              try clear hfz6_2
              try clear hx10_0
              try clear p10
              try clear p2
              try clear q10
              obtain ⟨x5_2, x7_2, rfl, HA, HK2, HO_5, BK163, HB⟩ := hrel
              have hl5_2 := (Kd.R_reads' HO_5.out).1
              rw [hl5_2] at HO_5
              (try simp only [hl5_2])
              (try simp only [hl5_2] at BK163)
              cases gk with
              | zero => exact absurd HA.out (by simp [spec_l15Far.l1])
              | succ k2 =>
                have H := HA.out
                clear HA
                simp only [spec_l15Far.l1] at H
                by_cases c14 : x7_2 < a0_0
                · rw [if_pos c14] at H
                  have c14b0 : decide (x7_2 < a0_0) = true := decide_eq_true c14
                  clear c14
                  have H' := Aside0.mk H
                  clear H
                  have hcz15_0 : wr.cell? ⟨gb163, 0, none⟩ = some (.int .i64 a0_0) := (blk_cell BK163.out 0).trans rfl
                  have hcz15_1 : wr.cell? ⟨gb163, 1, none⟩ = some (.slice A0_1 l0_1.length c0_1) := (blk_cell BK163.out 1).trans rfl
                  have hcz15_2 : wr.cell? ⟨gb163, 2, none⟩ = some (.slice A0_2 l0_2.length c0_2) := (blk_cell BK163.out 2).trans rfl
                  have hfz15_0 := blk_frozen BK163.out 0
                  have hfz15_1 := blk_frozen BK163.out 1
                  have hfz15_2 := blk_frozen BK163.out 2
                  go_wp2
                  go_loopg [31] k2 (fun kq v31 w' => ∃ (x5_3 : List Int) (x31_3 : Int), v31 = .int .i64 x31_3 ∧ Aside0 (spec_l15Far.l2 kq x5_3 x7_2 l0_1 (l0_1.length : Int) x31_3 a0_0 l0_1 l0_2 = some r) ∧ Aside0 (kq ≤ k2) ∧ Aside0 (Kd.R (Kd.int .i64) 3 w' w.heap.size (fun _ => True) (.slice (some ⟨go10, 0, none⟩) x5_2.length co10) x5_3) ∧ Aside0 (w'.heap[gb163]? = some (.cells #[.int .i64 a0_0, (.slice A0_1 l0_1.length c0_1), (.slice A0_2 l0_2.length c0_2)] 38 (0, 0))) ∧ Aside0 (Below w.heap.size w w'))
                  case atStart => exact ⟨(x5_2), (0), (by first | rfl | (simp; done) | (simp [*]; done)), H', ⟨Nat.le_refl _⟩, ⟨by (try simp only [hl5_2]); (with_reducible repeat (first | apply Kd.R_alloc | apply Kd.R_drewN | apply Kd.R_drew)); exact HO_5.out⟩, ⟨by (try simp only [hl5_2]); (with_reducible repeat (first | refine blk_drewN ?_ _ | refine blk_drew ?_ | refine blk_alloc ?_ _)); exact BK163.out⟩, ⟨by repeat (first | (with_reducible first | exact HB.out | apply below_alloc | apply pw_below_drewN | apply below_drew1 | refine below_set ?_ GE163.out) | exact HB.out)⟩⟩
                  case round =>
                    clear H'
                    try clear c1
                    try clear p1
                    try clear q1
                    try clear hx1
                    try clear p2
                    try clear c4
                    try clear c4b0
                    try clear c5
                    try clear p6
                    try clear c8
                    try clear c8b0
                    try clear c9
                    try clear c9b0
                    try clear c10
                    try clear p10
                    try clear q10
                    try clear hx10
                    try clear hf10
                    try clear c14
                    try clear c14b0
                    try clear hcz11_0
                    try clear hcz11_1
                    try clear hcz11_2
                    try clear hcz15_0
                    try clear hcz15_1
                    try clear hcz15_2
                    try clear hcz6_0
                    try clear hcz6_1
                    try clear hcz6_2
                    try clear hfz11_0
                    try clear hfz11_1
                    try clear hfz11_2
                    try clear hfz15_0
                    try clear hfz15_1
                    try clear hfz15_2
                    try clear hfz6_0
                    try clear hfz6_1
                    try clear hfz6_2
                    try clear hx10_0
                    try clear p1
                    try clear p10
                    try clear p2
                    try clear p6
                    try clear q1
                    try clear q10
                    obtain ⟨x5_3, x31_3, rfl, HA, HK3, HO_5, BK163, HB⟩ := hrel
                    have hl5_3 := (Kd.R_reads' HO_5.out).1
                    rw [hl5_3] at HO_5
                    (try simp only [hl5_3])
                    (try simp only [hl5_3] at BK163)
                    cases gk with
                    | zero => exact absurd HA.out (by simp [spec_l15Far.l2])
                    | succ k3 =>
                      have H := HA.out
                      clear HA
                      simp only [spec_l15Far.l2] at H
                      by_cases c16 : x31_3 < (l0_1.length : Int)
                      · rw [if_pos c16] at H
                        have c16b0 : decide (x31_3 < (l0_1.length : Int)) = true := decide_eq_true c16
                        clear c16
                        by_cases c17 : 0 ≤ x31_3
                        · rw [if_pos c17] at H
                          have c17b0 : decide (0 ≤ x31_3) = true := decide_eq_true c17
                          clear c17
                          by_cases c18 : x31_3 < (l0_1.length : Int)
                          · rw [if_pos c18] at H
                            have c18b0 : decide (x31_3 < (l0_1.length : Int)) = true := decide_eq_true c18
                            clear c18
                            have HC19 := Aside0.mk H
                            clear H
                            have p168 : 0 ≤ (x31_3 : Int) := of_decide_eq_true (by first | (with_reducible assumption) | assumption)
                            have q168 : x31_3 < (l0_1.length : Int) := of_decide_eq_true (by first | (with_reducible assumption) | assumption)
                            obtain ⟨ad168, A168_0, c168_0, e168, hx168_0, hl168_0, hi168_0⟩ := at_L1 HR0_1.out x31_3 p168 q168
                            cases e168
                            replace hx168_0 := (HB.out.cell (World.block_lt_of_cell? w _ hx168_0)).trans hx168_0
                            have HR168_0 := Aside0.mk hi168_0
                            have HC168_0 := Aside0.mk hl168_0
                            clear hi168_0 hl168_0
                            replace p168 := eq_true p168
                            replace q168 := eq_true q168
                            go_upto_region 13 with (fail)
                            go_cut [51] (fun v51 wc => ∃ (kq : Nat) (x51_18 : Bool), v51 = .bool x51_18 ∧ Aside0 (spec_l15Far.j3 kq x5_3 x7_2 (rd_L1 l0_1 x31_3) l0_1 (l0_1.length : Int) x31_3 x51_18 a0_0 l0_1 l0_2 = some r) ∧ Aside0 (kq ≤ k3) ∧ Aside0 (Kd.R (Kd.int .i64) 3 wc w.heap.size (fun _ => True) (.slice (some ⟨go10, 0, none⟩) x5_3.length co10) x5_3) ∧ Aside0 (wc.heap[gb163]? = some (.cells #[.int .i64 a0_0, (.slice (some ad168) l0_1.length c0_1), (.slice A0_2 l0_2.length c0_2)] 38 (0, 0))) ∧ Aside0 (Below w.heap.size w wc))
                            case first =>
                              have H := HC19.out
                              clear HC19
                              by_cases c20 : 0 < ((rd_L1 l0_1 x31_3).length : Int)
                              · rw [if_pos c20] at H
                                have c20b0 : decide (0 < ((rd_L1 l0_1 x31_3).length : Int)) = true := decide_eq_true c20
                                have c20b1 : decide (0 < (rd_L1 l0_1 x31_3).length) = true := decide_eq_true (by omega)
                                clear c20
                                (first | rw [c20b0] | (simp only [i64_w, i32_w]; rw [c20b0]) | skip)
                                by_cases c21 : 0 ≤ (rd (rd_L1 l0_1 x31_3) 0)
                                · rw [if_pos c21] at H
                                  have c21b0 : decide (0 ≤ (rd (rd_L1 l0_1 x31_3) 0)) = true := decide_eq_true c21
                                  clear c21
                                  by_cases c22 : (rd (rd_L1 l0_1 x31_3) 0) < (x5_3.length : Int)
                                  · rw [if_pos c22] at H
                                    have c22b0 : decide ((rd (rd_L1 l0_1 x31_3) 0) < (x5_3.length : Int)) = true := decide_eq_true c22
                                    clear c22
                                    by_cases c23 : (rd x5_3 (rd (rd_L1 l0_1 x31_3) 0)) = x7_2
                                    · rw [if_pos c23] at H
                                      have c23b0 : ((rd x5_3 (rd (rd_L1 l0_1 x31_3) 0)) == x7_2) = true := beq_iff_eq.mpr c23
                                      have c23b1 : ((rd x5_3 (rd (rd_L1 l0_1 x31_3) 0)) != x7_2) = false := bne_eq_false_iff_eq.mpr c23
                                      clear c23
                                      by_cases c24 : 1 < ((rd_L1 l0_1 x31_3).length : Int)
                                      · rw [if_pos c24] at H
                                        have c24b0 : decide (1 < ((rd_L1 l0_1 x31_3).length : Int)) = true := decide_eq_true c24
                                        have c24b1 : decide (1 < (rd_L1 l0_1 x31_3).length) = true := decide_eq_true (by omega)
                                        clear c24
                                        by_cases c25 : 0 ≤ (rd (rd_L1 l0_1 x31_3) 1)
                                        · rw [if_pos c25] at H
                                          have c25b0 : decide (0 ≤ (rd (rd_L1 l0_1 x31_3) 1)) = true := decide_eq_true c25
                                          clear c25
                                          by_cases c26 : (rd (rd_L1 l0_1 x31_3) 1) < (x5_3.length : Int)
                                          · rw [if_pos c26] at H
                                            have c26b0 : decide ((rd (rd_L1 l0_1 x31_3) 1) < (x5_3.length : Int)) = true := decide_eq_true c26
                                            clear c26
                                            have H' := Aside0.mk H
                                            clear H
                                            have p169 : 0 ≤ (0 : Int) := (by omega)
                                            have q169 : 0 < ((rd_L1 l0_1 x31_3).length : Int) := of_decide_eq_true (by first | (with_reducible assumption) | assumption)
                                            obtain ⟨ad169, e169, hx169_0⟩ := Kd.at_int HR168_0.out 0 p169 q169
                                            cases e169
                                            have qi169 : (0 < (rd_L1 l0_1 x31_3).length) = True := eq_true (by omega)
                                            (try rw [show ((0 : Int)).toNat = 0 from rfl] at hx169_0)
                                            (try rw [Addr.add_zero'] at hx169_0)
                                            replace hx169_0 := (HB.out.cell (World.block_lt_of_cell? w _ hx169_0)).trans hx169_0
                                            replace p169 := eq_true p169
                                            replace q169 := eq_true q169
                                            have p170 : 0 ≤ ((rd (rd_L1 l0_1 x31_3) 0) : Int) := of_decide_eq_true (by first | (with_reducible assumption) | assumption)
                                            have q170 : (rd (rd_L1 l0_1 x31_3) 0) < (x5_3.length : Int) := of_decide_eq_true (by first | (with_reducible assumption) | assumption)
                                            obtain ⟨ad170, e170, hx170_0⟩ := Kd.at_int (Kd.R_reads' HO_5.out).2.2 (rd (rd_L1 l0_1 x31_3) 0) p170 q170
                                            obtain rfl : (⟨go10, 0, none⟩ : Addr) = ad170 := (by injection e170)
                                            (first | simp only [add_plain] at hx170_0 | simp only [add_at] at hx170_0 | simp only [Addr.add, Nat.zero_add] at hx170_0 | skip)
                                            replace p170 := eq_true p170
                                            replace q170 := eq_true q170
                                            have p171 : 0 ≤ (1 : Int) := (by omega)
                                            have q171 : 1 < ((rd_L1 l0_1 x31_3).length : Int) := of_decide_eq_true (by first | (with_reducible assumption) | assumption)
                                            obtain ⟨ad171, e171, hx171_0⟩ := Kd.at_int HR168_0.out 1 p171 q171
                                            obtain rfl : ad169 = ad171 := (by injection e171)
                                            (try simp only [show (1 : Int).toNat = 1 from rfl, Nat.reduceMul, Nat.reduceEqDiff, Go.Addr.add, ↓reduceIte] at hx171_0)
                                            have qi171 : (1 < (rd_L1 l0_1 x31_3).length) = True := eq_true (by omega)
                                            (try rw [show ((1 : Int)).toNat = 1 from rfl] at hx171_0)
                                            replace hx171_0 := (HB.out.cell (World.block_lt_of_cell? w _ hx171_0)).trans hx171_0
                                            replace p171 := eq_true p171
                                            replace q171 := eq_true q171
                                            have p172 : 0 ≤ ((rd (rd_L1 l0_1 x31_3) 1) : Int) := of_decide_eq_true (by first | (with_reducible assumption) | assumption)
                                            have q172 : (rd (rd_L1 l0_1 x31_3) 1) < (x5_3.length : Int) := of_decide_eq_true (by first | (with_reducible assumption) | assumption)
                                            obtain ⟨ad172, e172, hx172_0⟩ := Kd.at_int (Kd.R_reads' HO_5.out).2.2 (rd (rd_L1 l0_1 x31_3) 1) p172 q172
                                            obtain rfl : (⟨go10, 0, none⟩ : Addr) = ad172 := (by injection e172)
                                            (first | simp only [add_plain] at hx172_0 | simp only [add_at] at hx172_0 | simp only [Addr.add, Nat.zero_add] at hx172_0 | skip)
                                            replace p172 := eq_true p172
                                            replace q172 := eq_true q172
                                            go_wp2
                                            go_meet
                                            case rel => exact ⟨_, (decide ((rd x5_3 (rd (rd_L1 l0_1 x31_3) 1)) < 0)), (by first | rfl | (simp; done) | (simp [*]; done)), H', ⟨by have := HK1.out; have := HK2.out; have := HK3.out; first | omega | exact Nat.le_refl _⟩, ⟨by (try simp only [hl5_2]); (try simp only [hl5_3]); (with_reducible repeat (first | apply Kd.R_alloc | apply Kd.R_drewN | apply Kd.R_drew)); exact HO_5.out⟩, ⟨by (try simp only [hl5_2]); (try simp only [hl5_3]); (with_reducible repeat (first | refine blk_drewN ?_ _ | refine blk_drew ?_ | refine blk_alloc ?_ _)); exact BK163.out⟩, ⟨by repeat (first | (with_reducible first | exact HB.out | apply below_alloc | apply pw_below_drewN | apply below_drew1 | refine below_set ?_ GE163.out) | exact HB.out)⟩⟩
                                          · rw [if_neg c26] at H
                                            exact absurd H (by simp)
                                        · rw [if_neg c25] at H
                                          exact absurd H (by simp)
                                      · rw [if_neg c24] at H
                                        exact absurd H (by simp)
                                    · rw [if_neg c23] at H
                                      have c23b0 : ((rd x5_3 (rd (rd_L1 l0_1 x31_3) 0)) == x7_2) = false := beq_eq_false_iff_ne.mpr c23
                                      have c23b1 : ((rd x5_3 (rd (rd_L1 l0_1 x31_3) 0)) != x7_2) = true := bne_iff_ne.mpr c23
                                      have H' := Aside0.mk H
                                      clear H
                                      have p169 : 0 ≤ (0 : Int) := (by omega)
                                      have q169 : 0 < ((rd_L1 l0_1 x31_3).length : Int) := of_decide_eq_true (by first | (with_reducible assumption) | assumption)
                                      obtain ⟨ad169, e169, hx169_0⟩ := Kd.at_int HR168_0.out 0 p169 q169
                                      cases e169
                                      have qi169 : (0 < (rd_L1 l0_1 x31_3).length) = True := eq_true (by omega)
                                      (try rw [show ((0 : Int)).toNat = 0 from rfl] at hx169_0)
                                      (try rw [Addr.add_zero'] at hx169_0)
                                      replace hx169_0 := (HB.out.cell (World.block_lt_of_cell? w _ hx169_0)).trans hx169_0
                                      replace p169 := eq_true p169
                                      replace q169 := eq_true q169
                                      have p170 : 0 ≤ ((rd (rd_L1 l0_1 x31_3) 0) : Int) := of_decide_eq_true (by first | (with_reducible assumption) | assumption)
                                      have q170 : (rd (rd_L1 l0_1 x31_3) 0) < (x5_3.length : Int) := of_decide_eq_true (by first | (with_reducible assumption) | assumption)
                                      obtain ⟨ad170, e170, hx170_0⟩ := Kd.at_int (Kd.R_reads' HO_5.out).2.2 (rd (rd_L1 l0_1 x31_3) 0) p170 q170
                                      obtain rfl : (⟨go10, 0, none⟩ : Addr) = ad170 := (by injection e170)
                                      (first | simp only [add_plain] at hx170_0 | simp only [add_at] at hx170_0 | simp only [Addr.add, Nat.zero_add] at hx170_0 | skip)
                                      replace p170 := eq_true p170
                                      replace q170 := eq_true q170
                                      go_wp2
                                      go_meet
                                      case rel => exact ⟨_, (false), (by first | rfl | (simp; done) | (simp [*]; done)), H', ⟨by have := HK1.out; have := HK2.out; have := HK3.out; first | omega | exact Nat.le_refl _⟩, ⟨by (try simp only [hl5_2]); (try simp only [hl5_3]); (with_reducible repeat (first | apply Kd.R_alloc | apply Kd.R_drewN | apply Kd.R_drew)); exact HO_5.out⟩, ⟨by (try simp only [hl5_2]); (try simp only [hl5_3]); (with_reducible repeat (first | refine blk_drewN ?_ _ | refine blk_drew ?_ | refine blk_alloc ?_ _)); exact BK163.out⟩, ⟨by repeat (first | (with_reducible first | exact HB.out | apply below_alloc | apply pw_below_drewN | apply below_drew1 | refine below_set ?_ GE163.out) | exact HB.out)⟩⟩
                                  · rw [if_neg c22] at H
                                    exact absurd H (by simp)
                                · rw [if_neg c21] at H
                                  exact absurd H (by simp)
                              · rw [if_neg c20] at H
                                exact absurd H (by simp)
                            case rest =>
                              clear HC19
                              try clear c1
                              try clear p1
                              try clear q1
                              try clear hx1
                              try clear qi1
                              try clear c2
                              try clear p2
                              try clear c4
                              try clear c4b0
                              try clear c5
                              try clear p6
                              try clear c8
                              try clear c8b0
                              try clear c9
                              try clear c9b0
                              try clear c10
                              try clear p10
                              try clear q10
                              try clear hx10
                              try clear hf10
                              try clear c14
                              try clear c14b0
                              try clear c16
                              try clear c16b0
                              try clear p16
                              try clear q16
                              try clear hx16
                              try clear qi16
                              try clear c17
                              try clear c17b0
                              try clear p17
                              try clear q17
                              try clear hx17
                              try clear qi17
                              try clear c18
                              try clear c18b0
                              try clear c20
                              try clear c20b0
                              try clear c20b1
                              try clear c21
                              try clear c21b0
                              try clear c22
                              try clear c22b0
                              try clear c23
                              try clear c23b0
                              try clear c23b1
                              try clear c24
                              try clear c24b0
                              try clear c24b1
                              try clear c25
                              try clear c25b0
                              try clear c26
                              try clear c26b0
                              try clear hcz11_0
                              try clear hcz11_1
                              try clear hcz11_2
                              try clear hcz15_0
                              try clear hcz15_1
                              try clear hcz15_2
                              try clear hcz6_0
                              try clear hcz6_1
                              try clear hcz6_2
                              try clear hfz11_0
                              try clear hfz11_1
                              try clear hfz11_2
                              try clear hfz15_0
                              try clear hfz15_1
                              try clear hfz15_2
                              try clear hfz6_0
                              try clear hfz6_1
                              try clear hfz6_2
                              try clear hx10_0
                              try clear hx168_0
                              try clear hx169_0
                              try clear hx170_0
                              try clear hx171_0
                              try clear hx172_0
                              try clear p1
                              try clear p10
                              try clear p168
                              try clear p169
                              try clear p170
                              try clear p171
                              try clear p172
                              try clear p2
                              try clear p6
                              try clear q1
                              try clear q10
                              try clear q168
                              try clear q169
                              try clear q170
                              try clear q171
                              try clear q172
                              obtain ⟨kq, x51_18, rfl, HA, HJ18, HO_5, BK163, HB⟩ := hcut
                              cases kq with
                              | zero => exact absurd HA.out (by simp [spec_l15Far.j3])
                              | succ kj18 =>
                                have H := HA.out
                                clear HA
                                simp only [spec_l15Far.j3] at H
                                by_cases c27 : x51_18 = true
                                · subst c27
                                  have H1 : (if 1 < ((rd_L1 l0_1 x31_3).length : Int) then (if 0 ≤ (rd (rd_L1 l0_1 x31_3) 1) then (if (rd (rd_L1 l0_1 x31_3) 1) < (x5_3.length : Int) then ((some (x5_3.set ((rd (rd_L1 l0_1 x31_3) 1) : Int).toNat (wrap64 (x7_2 + 1)) : List Int)).bind fun y174 => (if (rd y174 (rd (rd_L1 l0_1 x31_3) 1)) = x7_2 then (if 0 < ((rd_L1 l0_1 x31_3).length : Int) then (if 0 ≤ (rd (rd_L1 l0_1 x31_3) 0) then (if (rd (rd_L1 l0_1 x31_3) 0) < (x5_3.length : Int) then (if (rd y174 (rd (rd_L1 l0_1 x31_3) 0)) < 0 then (spec_l15Far.l2 kj18 (y174.set ((rd (rd_L1 l0_1 x31_3) 0) : Int).toNat (wrap64 (x7_2 + 1))) x7_2 l0_1 (l0_1.length : Int) (wrap64 (x31_3 + 1)) a0_0 l0_1 l0_2) else (spec_l15Far.l2 kj18 y174 x7_2 l0_1 (l0_1.length : Int) (wrap64 (x31_3 + 1)) a0_0 l0_1 l0_2)) else (none)) else (none)) else (none)) else (spec_l15Far.l2 kj18 y174 x7_2 l0_1 (l0_1.length : Int) (wrap64 (x31_3 + 1)) a0_0 l0_1 l0_2))) else (none)) else (none)) else (none)) = some r := by rw [if_pos rfl] at H; exact H
                                  clear H
                                  have H := H1
                                  clear H1
                                  by_cases c28 : 1 < ((rd_L1 l0_1 x31_3).length : Int)
                                  · rw [if_pos c28] at H
                                    have c28b0 : decide (1 < ((rd_L1 l0_1 x31_3).length : Int)) = true := decide_eq_true c28
                                    have c28b1 : decide (1 < (rd_L1 l0_1 x31_3).length) = true := decide_eq_true (by omega)
                                    clear c28
                                    by_cases c29 : 0 ≤ (rd (rd_L1 l0_1 x31_3) 1)
                                    · rw [if_pos c29] at H
                                      have c29b0 : decide (0 ≤ (rd (rd_L1 l0_1 x31_3) 1)) = true := decide_eq_true c29
                                      clear c29
                                      by_cases c30 : (rd (rd_L1 l0_1 x31_3) 1) < (x5_3.length : Int)
                                      · rw [if_pos c30] at H
                                        have c30b0 : decide ((rd (rd_L1 l0_1 x31_3) 1) < (x5_3.length : Int)) = true := decide_eq_true c30
                                        clear c30
                                        obtain ⟨y174, hy174⟩ : ∃ y_ : List Int, y_ = (x5_3.set ((rd (rd_L1 l0_1 x31_3) 1) : Int).toNat (wrap64 (x7_2 + 1))) := ⟨_, rfl⟩
                                        replace H : (if (rd y174 (rd (rd_L1 l0_1 x31_3) 1)) = x7_2 then (if 0 < ((rd_L1 l0_1 x31_3).length : Int) then (if 0 ≤ (rd (rd_L1 l0_1 x31_3) 0) then (if (rd (rd_L1 l0_1 x31_3) 0) < (x5_3.length : Int) then (if (rd y174 (rd (rd_L1 l0_1 x31_3) 0)) < 0 then (spec_l15Far.l2 kj18 (y174.set ((rd (rd_L1 l0_1 x31_3) 0) : Int).toNat (wrap64 (x7_2 + 1))) x7_2 l0_1 (l0_1.length : Int) (wrap64 (x31_3 + 1)) a0_0 l0_1 l0_2) else (spec_l15Far.l2 kj18 y174 x7_2 l0_1 (l0_1.length : Int) (wrap64 (x31_3 + 1)) a0_0 l0_1 l0_2)) else (none)) else (none)) else (none)) else (spec_l15Far.l2 kj18 y174 x7_2 l0_1 (l0_1.length : Int) (wrap64 (x31_3 + 1)) a0_0 l0_1 l0_2)) = some r := by first | (rw [hy174]; with_reducible exact H) | (have H2_ := (Option.bind_some _ _).symm.trans H; rw [hy174]; with_reducible exact H2_) | (have H2_ := (Option.bind_some _ _).symm.trans H; with_reducible exact H2_) | with_reducible exact H | (rw [hy174]; exact H) | exact H
                                        have Ny174 := Aside0.mk hy174
                                        clear hy174
                                        by_cases c32 : (rd y174 (rd (rd_L1 l0_1 x31_3) 1)) = x7_2
                                        · rw [if_pos c32] at H
                                          have c32b0 : ((rd y174 (rd (rd_L1 l0_1 x31_3) 1)) == x7_2) = true := beq_iff_eq.mpr c32
                                          have c32b1 : ((rd y174 (rd (rd_L1 l0_1 x31_3) 1)) != x7_2) = false := bne_eq_false_iff_eq.mpr c32
                                          clear c32
                                          by_cases c33 : 0 < ((rd_L1 l0_1 x31_3).length : Int)
                                          · rw [if_pos c33] at H
                                            have c33b0 : decide (0 < ((rd_L1 l0_1 x31_3).length : Int)) = true := decide_eq_true c33
                                            have c33b1 : decide (0 < (rd_L1 l0_1 x31_3).length) = true := decide_eq_true (by omega)
                                            clear c33
                                            by_cases c34 : 0 ≤ (rd (rd_L1 l0_1 x31_3) 0)
                                            · rw [if_pos c34] at H
                                              have c34b0 : decide (0 ≤ (rd (rd_L1 l0_1 x31_3) 0)) = true := decide_eq_true c34
                                              clear c34
                                              by_cases c35 : (rd (rd_L1 l0_1 x31_3) 0) < (x5_3.length : Int)
                                              · rw [if_pos c35] at H
                                                have c35b0 : decide ((rd (rd_L1 l0_1 x31_3) 0) < (x5_3.length : Int)) = true := decide_eq_true c35
                                                clear c35
                                                by_cases c36 : (rd y174 (rd (rd_L1 l0_1 x31_3) 0)) < 0
                                                · rw [if_pos c36] at H
                                                  have c36b0 : decide ((rd y174 (rd (rd_L1 l0_1 x31_3) 0)) < 0) = true := decide_eq_true c36
                                                  clear c36
                                                  obtain ⟨y180, hy180⟩ : ∃ y_ : List Int, y_ = (y174.set ((rd (rd_L1 l0_1 x31_3) 0) : Int).toNat (wrap64 (x7_2 + 1))) := ⟨_, rfl⟩
                                                  replace H : (spec_l15Far.l2 kj18 y180 x7_2 l0_1 (l0_1.length : Int) (wrap64 (x31_3 + 1)) a0_0 l0_1 l0_2) = some r := by first | (rw [hy180]; with_reducible exact H) | (have H2_ := (Option.bind_some _ _).symm.trans H; rw [hy180]; with_reducible exact H2_) | (have H2_ := (Option.bind_some _ _).symm.trans H; with_reducible exact H2_) | with_reducible exact H | (rw [hy180]; exact H) | exact H
                                                  have Ny180 := Aside0.mk hy180
                                                  clear hy180
                                                  have H' := Aside0.mk H
                                                  clear H
                                                  have p173 : 0 ≤ (1 : Int) := (by omega)
                                                  have q173 : 1 < ((rd_L1 l0_1 x31_3).length : Int) := of_decide_eq_true (by first | (with_reducible assumption) | assumption)
                                                  obtain ⟨ad173, e173, hx173_0⟩ := Kd.at_int HR168_0.out 1 p173 q173
                                                  cases e173
                                                  (try simp only [show (1 : Int).toNat = 1 from rfl, Nat.reduceMul, Nat.reduceEqDiff, Go.Addr.add, ↓reduceIte] at hx173_0)
                                                  have qi173 : (1 < (rd_L1 l0_1 x31_3).length) = True := eq_true (by omega)
                                                  (try rw [show ((1 : Int)).toNat = 1 from rfl] at hx173_0)
                                                  replace hx173_0 := (HB.out.cell (World.block_lt_of_cell? w _ hx173_0)).trans hx173_0
                                                  replace p173 := eq_true p173
                                                  replace q173 := eq_true q173
                                                  have p31 : 0 ≤ ((rd (rd_L1 l0_1 x31_3) 1) : Int) := of_decide_eq_true (by first | (with_reducible assumption) | assumption)
                                                  have q31 : ((rd (rd_L1 l0_1 x31_3) 1) : Int) < ((x5_3.length : Int) : Int) := of_decide_eq_true (by first | (with_reducible assumption) | assumption)
                                                  obtain ⟨hx31_0, hf31_0⟩ := Kd.R_celln 0 HO_5.out ((rd (rd_L1 l0_1 x31_3) 1) : Int) p31 q31
                                                  replace p31 := eq_true p31
                                                  replace q31 := eq_true q31
                                                  have HP38 := Kd.R_putg HO_5.out ((rd (rd_L1 l0_1 x31_3) 1) : Int) (wrap64 (x7_2 + 1))
                                                  go_wp2_with (first | ((with_reducible refine gate_store (t := 3) (p := 58) rfl ?_); refine store_event (t := 3) (p := 58) (v := ?vo_w39) (w1 := (wc.setCell ⟨go10, ((rd (rd_L1 l0_1 x31_3) 1) : Int).toNat, none⟩ (.int .i64 (wrap64 (x7_2 + 1))))) ?hg ?ho ?hn ?hr ?_; (case ho => rfl); (case hg => rfl); (case hn => rfl); (case hr => first | (go_simp; done) | (go_simp; rfl)); intro w39 hw; have hg : wc.grownBy w39 (some go10) := (by rw [hw]; exact HP38.2); have hp_ : Kd.R (Kd.int .i64) 3 w39 w.heap.size (fun _ => True) (.slice (some ⟨go10, 0, none⟩) x5_3.length co10) y174 := (by rw [hw, Ny174.out]; exact HP38.1); clear HP38; have n0_ := Aside0.mk (hp_); have n1_ := Aside0.mk (blk_grown (g := gb163) (o := .cells #[.int .i64 a0_0, .slice (some ad168) l0_1.length c0_1, .slice A0_2 l0_2.length c0_2] 38 (0, 0)) (by (with_reducible repeat (first | refine blk_drewN ?_ _ | refine blk_drew ?_ | refine blk_alloc ?_ _)); exact BK163.out) hg (Kd.R_ne HO_5.out BK163.out (by decide))); have n2_ := Aside0.mk ((by rw [hw]; exact below_set (HB.out) GB10.out : Below w.heap.size w w39)); clear HO_5; clear BK163; clear HB; have HO_5 := n0_; have BK163 := n1_; have HB := n2_; clear n0_ n1_ n2_; clear hg hw hp_; have p175 : 0 ≤ (1 : Int) := (by omega); have q175 : 1 < ((rd_L1 l0_1 x31_3).length : Int) := of_decide_eq_true (by first | (with_reducible assumption) | assumption); obtain ⟨ad175, e175, hx175_0⟩ := Kd.at_int HR168_0.out 1 p175 q175; obtain rfl : ad173 = ad175 := (by injection e175); (try simp only [show (1 : Int).toNat = 1 from rfl, Nat.reduceMul, Nat.reduceEqDiff, Go.Addr.add, ↓reduceIte] at hx175_0); have qi175 : (1 < (rd_L1 l0_1 x31_3).length) = True := eq_true (by omega); (try rw [show ((1 : Int)).toNat = 1 from rfl] at hx175_0); replace hx175_0 := (HB.out.cell (World.block_lt_of_cell? w _ hx175_0)).trans hx175_0; replace p175 := eq_true p175; replace q175 := eq_true q175; have p176 : 0 ≤ ((rd (rd_L1 l0_1 x31_3) 1) : Int) := of_decide_eq_true (by first | (with_reducible assumption) | assumption); have q176 : (rd (rd_L1 l0_1 x31_3) 1) < (y174.length : Int) := (by have h_ : ((rd (rd_L1 l0_1 x31_3) 1) : Int) < ((x5_3.length : Int) : Int) := of_decide_eq_true (by first | (with_reducible assumption) | assumption); first | (have e_ := (Kd.R_reads' HO_5.out).1; omega) | simpa only [Ny174.out, List.length_set] using h_); have ql176 : (((rd (rd_L1 l0_1 x31_3) 1) : Int) < ((x5_3.length : Int) : Int)) = True := eq_true (of_decide_eq_true (by first | (with_reducible assumption) | assumption)); obtain ⟨ad176, e176, hx176_0⟩ := Kd.at_int (Kd.R_reads' HO_5.out).2.2 (rd (rd_L1 l0_1 x31_3) 1) p176 q176; obtain rfl : (⟨go10, 0, none⟩ : Addr) = ad176 := (by injection e176); (first | simp only [add_plain] at hx176_0 | simp only [add_at] at hx176_0 | simp only [Addr.add, Nat.zero_add] at hx176_0 | skip); replace p176 := eq_true p176; replace q176 := eq_true q176; have p177 : 0 ≤ (0 : Int) := (by omega); have q177 : 0 < ((rd_L1 l0_1 x31_3).length : Int) := of_decide_eq_true (by first | (with_reducible assumption) | assumption); obtain ⟨ad177, e177, hx177_0⟩ := Kd.at_int HR168_0.out 0 p177 q177; obtain rfl : ad173 = ad177 := (by injection e177); have qi177 : (0 < (rd_L1 l0_1 x31_3).length) = True := eq_true (by omega); (try rw [show ((0 : Int)).toNat = 0 from rfl] at hx177_0); (try rw [Addr.add_zero'] at hx177_0); replace hx177_0 := (HB.out.cell (World.block_lt_of_cell? w _ hx177_0)).trans hx177_0; replace p177 := eq_true p177; replace q177 := eq_true q177; have p178 : 0 ≤ ((rd (rd_L1 l0_1 x31_3) 0) : Int) := of_decide_eq_true (by first | (with_reducible assumption) | assumption); have q178 : (rd (rd_L1 l0_1 x31_3) 0) < (y174.length : Int) := (by have h_ : ((rd (rd_L1 l0_1 x31_3) 0) : Int) < ((x5_3.length : Int) : Int) := of_decide_eq_true (by first | (with_reducible assumption) | assumption); first | (have e_ := (Kd.R_reads' HO_5.out).1; omega) | simpa only [Ny174.out, List.length_set] using h_); have ql178 : (((rd (rd_L1 l0_1 x31_3) 0) : Int) < ((x5_3.length : Int) : Int)) = True := eq_true (of_decide_eq_true (by first | (with_reducible assumption) | assumption)); obtain ⟨ad178, e178, hx178_0⟩ := Kd.at_int (Kd.R_reads' HO_5.out).2.2 (rd (rd_L1 l0_1 x31_3) 0) p178 q178; obtain rfl : (⟨go10, 0, none⟩ : Addr) = ad178 := (by injection e178); (first | simp only [add_plain] at hx178_0 | simp only [add_at] at hx178_0 | simp only [Addr.add, Nat.zero_add] at hx178_0 | skip); replace p178 := eq_true p178; replace q178 := eq_true q178; have p179 : 0 ≤ (0 : Int) := (by omega); have q179 : 0 < ((rd_L1 l0_1 x31_3).length : Int) := of_decide_eq_true (by first | (with_reducible assumption) | assumption); obtain ⟨ad179, e179, hx179_0⟩ := Kd.at_int HR168_0.out 0 p179 q179; obtain rfl : ad173 = ad179 := (by injection e179); have qi179 : (0 < (rd_L1 l0_1 x31_3).length) = True := eq_true (by omega); (try rw [show ((0 : Int)).toNat = 0 from rfl] at hx179_0); (try rw [Addr.add_zero'] at hx179_0); replace hx179_0 := (HB.out.cell (World.block_lt_of_cell? w _ hx179_0)).trans hx179_0; replace p179 := eq_true p179; replace q179 := eq_true q179; have p37 : 0 ≤ ((rd (rd_L1 l0_1 x31_3) 0) : Int) := of_decide_eq_true (by first | (with_reducible assumption) | assumption); have q37 : ((rd (rd_L1 l0_1 x31_3) 0) : Int) < ((x5_3.length : Int) : Int) := of_decide_eq_true (by first | (with_reducible assumption) | assumption); obtain ⟨hx37_0, hf37_0⟩ := Kd.R_celln 0 HO_5.out ((rd (rd_L1 l0_1 x31_3) 0) : Int) p37 q37; replace p37 := eq_true p37; replace q37 := eq_true q37; obtain ⟨hy40_, hz40_⟩ := Kd.R_celln 0 HO_5.out ((rd (rd_L1 l0_1 x31_3) 0) : Int) (of_decide_eq_true (by first | (with_reducible assumption) | assumption)) (of_decide_eq_true (by first | (with_reducible assumption) | assumption)); have HP40 := Kd.R_putg HO_5.out ((rd (rd_L1 l0_1 x31_3) 0) : Int) (wrap64 (x7_2 + 1))) | ((with_reducible refine gate_store (t := 3) (p := 82) rfl ?_); refine store_event (t := 3) (p := 82) (v := ?vo_w41) (w1 := (w39.setCell ⟨go10, ((rd (rd_L1 l0_1 x31_3) 0) : Int).toNat, none⟩ (.int .i64 (wrap64 (x7_2 + 1))))) ?hg ?ho ?hn ?hr ?_; (case ho => rfl); (case hg => rfl); (case hn => rfl); (case hr => first | (go_simp; done) | (go_simp; rfl)); intro w41 hw; have hg : w39.grownBy w41 (some go10) := (by rw [hw]; exact HP40.2); have hp_ : Kd.R (Kd.int .i64) 3 w41 w.heap.size (fun _ => True) (.slice (some ⟨go10, 0, none⟩) x5_3.length co10) y180 := (by rw [hw, Ny180.out]; exact HP40.1); clear HP40; have n0_ := Aside0.mk (hp_); have n1_ := Aside0.mk (blk_grown (g := gb163) (o := .cells #[.int .i64 a0_0, .slice (some ad168) l0_1.length c0_1, .slice A0_2 l0_2.length c0_2] 38 (0, 0)) (by (with_reducible repeat (first | refine blk_drewN ?_ _ | refine blk_drew ?_ | refine blk_alloc ?_ _)); exact BK163.out) hg (Kd.R_ne HO_5.out BK163.out (by decide))); have n2_ := Aside0.mk ((by rw [hw]; exact below_set (HB.out) GB10.out : Below w.heap.size w w41)); clear HO_5; clear BK163; clear HB; have HO_5 := n0_; have BK163 := n1_; have HB := n2_; clear n0_ n1_ n2_; clear hg hw hp_))
                                                  (try simp only [← hl5_3])
                                                  go_roundg kj18
                                                  case measure => have := HK1.out; have := HK2.out; have := HK3.out; have := HJ18.out; omega
                                                  case rel => exact ⟨(y180), (wrap64 (x31_3 + 1)), (by first | rfl | (simp; done) | (simp [*]; done)), H', ⟨by have := HK1.out; have := HK2.out; have := HK3.out; have := HJ18.out; omega⟩, ⟨by (try simp only [hl5_2]); (try simp only [hl5_3]); (with_reducible repeat (first | apply Kd.R_alloc | apply Kd.R_drewN | apply Kd.R_drew)); exact HO_5.out⟩, ⟨by (try simp only [hl5_2]); (try simp only [hl5_3]); (with_reducible repeat (first | refine blk_drewN ?_ _ | refine blk_drew ?_ | refine blk_alloc ?_ _)); exact BK163.out⟩, ⟨by repeat (first | (with_reducible first | exact HB.out | apply below_alloc | apply pw_below_drewN | apply below_drew1 | refine below_set ?_ GE163.out) | exact HB.out)⟩⟩
                                                · rw [if_neg c36] at H
                                                  have c36b0 : decide ((rd y174 (rd (rd_L1 l0_1 x31_3) 0)) < 0) = false := decide_eq_false c36
                                                  clear c36
                                                  have H' := Aside0.mk H
                                                  clear H
                                                  have p173 : 0 ≤ (1 : Int) := (by omega)
                                                  have q173 : 1 < ((rd_L1 l0_1 x31_3).length : Int) := of_decide_eq_true (by first | (with_reducible assumption) | assumption)
                                                  obtain ⟨ad173, e173, hx173_0⟩ := Kd.at_int HR168_0.out 1 p173 q173
                                                  cases e173
                                                  (try simp only [show (1 : Int).toNat = 1 from rfl, Nat.reduceMul, Nat.reduceEqDiff, Go.Addr.add, ↓reduceIte] at hx173_0)
                                                  have qi173 : (1 < (rd_L1 l0_1 x31_3).length) = True := eq_true (by omega)
                                                  (try rw [show ((1 : Int)).toNat = 1 from rfl] at hx173_0)
                                                  replace hx173_0 := (HB.out.cell (World.block_lt_of_cell? w _ hx173_0)).trans hx173_0
                                                  replace p173 := eq_true p173
                                                  replace q173 := eq_true q173
                                                  have p31 : 0 ≤ ((rd (rd_L1 l0_1 x31_3) 1) : Int) := of_decide_eq_true (by first | (with_reducible assumption) | assumption)
                                                  have q31 : ((rd (rd_L1 l0_1 x31_3) 1) : Int) < ((x5_3.length : Int) : Int) := of_decide_eq_true (by first | (with_reducible assumption) | assumption)
                                                  obtain ⟨hx31_0, hf31_0⟩ := Kd.R_celln 0 HO_5.out ((rd (rd_L1 l0_1 x31_3) 1) : Int) p31 q31
                                                  replace p31 := eq_true p31
                                                  replace q31 := eq_true q31
                                                  have HP42 := Kd.R_putg HO_5.out ((rd (rd_L1 l0_1 x31_3) 1) : Int) (wrap64 (x7_2 + 1))
                                                  go_wp2_with (first | ((with_reducible refine gate_store (t := 3) (p := 58) rfl ?_); refine store_event (t := 3) (p := 58) (v := ?vo_w43) (w1 := (wc.setCell ⟨go10, ((rd (rd_L1 l0_1 x31_3) 1) : Int).toNat, none⟩ (.int .i64 (wrap64 (x7_2 + 1))))) ?hg ?ho ?hn ?hr ?_; (case ho => rfl); (case hg => rfl); (case hn => rfl); (case hr => first | (go_simp; done) | (go_simp; rfl)); intro w43 hw; have hg : wc.grownBy w43 (some go10) := (by rw [hw]; exact HP42.2); have hp_ : Kd.R (Kd.int .i64) 3 w43 w.heap.size (fun _ => True) (.slice (some ⟨go10, 0, none⟩) x5_3.length co10) y174 := (by rw [hw, Ny174.out]; exact HP42.1); clear HP42; have n0_ := Aside0.mk (hp_); have n1_ := Aside0.mk (blk_grown (g := gb163) (o := .cells #[.int .i64 a0_0, .slice (some ad168) l0_1.length c0_1, .slice A0_2 l0_2.length c0_2] 38 (0, 0)) (by (with_reducible repeat (first | refine blk_drewN ?_ _ | refine blk_drew ?_ | refine blk_alloc ?_ _)); exact BK163.out) hg (Kd.R_ne HO_5.out BK163.out (by decide))); have n2_ := Aside0.mk ((by rw [hw]; exact below_set (HB.out) GB10.out : Below w.heap.size w w43)); clear HO_5; clear BK163; clear HB; have HO_5 := n0_; have BK163 := n1_; have HB := n2_; clear n0_ n1_ n2_; clear hg hw hp_; have p175 : 0 ≤ (1 : Int) := (by omega); have q175 : 1 < ((rd_L1 l0_1 x31_3).length : Int) := of_decide_eq_true (by first | (with_reducible assumption) | assumption); obtain ⟨ad175, e175, hx175_0⟩ := Kd.at_int HR168_0.out 1 p175 q175; obtain rfl : ad173 = ad175 := (by injection e175); (try simp only [show (1 : Int).toNat = 1 from rfl, Nat.reduceMul, Nat.reduceEqDiff, Go.Addr.add, ↓reduceIte] at hx175_0); have qi175 : (1 < (rd_L1 l0_1 x31_3).length) = True := eq_true (by omega); (try rw [show ((1 : Int)).toNat = 1 from rfl] at hx175_0); replace hx175_0 := (HB.out.cell (World.block_lt_of_cell? w _ hx175_0)).trans hx175_0; replace p175 := eq_true p175; replace q175 := eq_true q175; have p176 : 0 ≤ ((rd (rd_L1 l0_1 x31_3) 1) : Int) := of_decide_eq_true (by first | (with_reducible assumption) | assumption); have q176 : (rd (rd_L1 l0_1 x31_3) 1) < (y174.length : Int) := (by have h_ : ((rd (rd_L1 l0_1 x31_3) 1) : Int) < ((x5_3.length : Int) : Int) := of_decide_eq_true (by first | (with_reducible assumption) | assumption); first | (have e_ := (Kd.R_reads' HO_5.out).1; omega) | simpa only [Ny174.out, List.length_set] using h_); have ql176 : (((rd (rd_L1 l0_1 x31_3) 1) : Int) < ((x5_3.length : Int) : Int)) = True := eq_true (of_decide_eq_true (by first | (with_reducible assumption) | assumption)); obtain ⟨ad176, e176, hx176_0⟩ := Kd.at_int (Kd.R_reads' HO_5.out).2.2 (rd (rd_L1 l0_1 x31_3) 1) p176 q176; obtain rfl : (⟨go10, 0, none⟩ : Addr) = ad176 := (by injection e176); (first | simp only [add_plain] at hx176_0 | simp only [add_at] at hx176_0 | simp only [Addr.add, Nat.zero_add] at hx176_0 | skip); replace p176 := eq_true p176; replace q176 := eq_true q176; have p177 : 0 ≤ (0 : Int) := (by omega); have q177 : 0 < ((rd_L1 l0_1 x31_3).length : Int) := of_decide_eq_true (by first | (with_reducible assumption) | assumption); obtain ⟨ad177, e177, hx177_0⟩ := Kd.at_int HR168_0.out 0 p177 q177; obtain rfl : ad173 = ad177 := (by injection e177); have qi177 : (0 < (rd_L1 l0_1 x31_3).length) = True := eq_true (by omega); (try rw [show ((0 : Int)).toNat = 0 from rfl] at hx177_0); (try rw [Addr.add_zero'] at hx177_0); replace hx177_0 := (HB.out.cell (World.block_lt_of_cell? w _ hx177_0)).trans hx177_0; replace p177 := eq_true p177; replace q177 := eq_true q177; have p178 : 0 ≤ ((rd (rd_L1 l0_1 x31_3) 0) : Int) := of_decide_eq_true (by first | (with_reducible assumption) | assumption); have q178 : (rd (rd_L1 l0_1 x31_3) 0) < (y174.length : Int) := (by have h_ : ((rd (rd_L1 l0_1 x31_3) 0) : Int) < ((x5_3.length : Int) : Int) := of_decide_eq_true (by first | (with_reducible assumption) | assumption); first | (have e_ := (Kd.R_reads' HO_5.out).1; omega) | simpa only [Ny174.out, List.length_set] using h_); have ql178 : (((rd (rd_L1 l0_1 x31_3) 0) : Int) < ((x5_3.length : Int) : Int)) = True := eq_true (of_decide_eq_true (by first | (with_reducible assumption) | assumption)); obtain ⟨ad178, e178, hx178_0⟩ := Kd.at_int (Kd.R_reads' HO_5.out).2.2 (rd (rd_L1 l0_1 x31_3) 0) p178 q178; obtain rfl : (⟨go10, 0, none⟩ : Addr) = ad178 := (by injection e178); (first | simp only [add_plain] at hx178_0 | simp only [add_at] at hx178_0 | simp only [Addr.add, Nat.zero_add] at hx178_0 | skip); replace p178 := eq_true p178; replace q178 := eq_true q178))
                                                  (try simp only [← hl5_3])
                                                  go_roundg kj18
                                                  case measure => have := HK1.out; have := HK2.out; have := HK3.out; have := HJ18.out; omega
                                                  case rel => exact ⟨(y174), (wrap64 (x31_3 + 1)), (by first | rfl | (simp; done) | (simp [*]; done)), H', ⟨by have := HK1.out; have := HK2.out; have := HK3.out; have := HJ18.out; omega⟩, ⟨by (try simp only [hl5_2]); (try simp only [hl5_3]); (with_reducible repeat (first | apply Kd.R_alloc | apply Kd.R_drewN | apply Kd.R_drew)); exact HO_5.out⟩, ⟨by (try simp only [hl5_2]); (try simp only [hl5_3]); (with_reducible repeat (first | refine blk_drewN ?_ _ | refine blk_drew ?_ | refine blk_alloc ?_ _)); exact BK163.out⟩, ⟨by repeat (first | (with_reducible first | exact HB.out | apply below_alloc | apply pw_below_drewN | apply below_drew1 | refine below_set ?_ GE163.out) | exact HB.out)⟩⟩
                                              · rw [if_neg c35] at H
                                                exact absurd H (by simp)
                                            · rw [if_neg c34] at H
                                              exact absurd H (by simp)
                                          · rw [if_neg c33] at H
                                            exact absurd H (by simp)
                                        · rw [if_neg c32] at H
                                          have c32b0 : ((rd y174 (rd (rd_L1 l0_1 x31_3) 1)) == x7_2) = false := beq_eq_false_iff_ne.mpr c32
                                          have c32b1 : ((rd y174 (rd (rd_L1 l0_1 x31_3) 1)) != x7_2) = true := bne_iff_ne.mpr c32
                                          have H' := Aside0.mk H
                                          clear H
                                          have p173 : 0 ≤ (1 : Int) := (by omega)
                                          have q173 : 1 < ((rd_L1 l0_1 x31_3).length : Int) := of_decide_eq_true (by first | (with_reducible assumption) | assumption)
                                          obtain ⟨ad173, e173, hx173_0⟩ := Kd.at_int HR168_0.out 1 p173 q173
                                          cases e173
                                          (try simp only [show (1 : Int).toNat = 1 from rfl, Nat.reduceMul, Nat.reduceEqDiff, Go.Addr.add, ↓reduceIte] at hx173_0)
                                          have qi173 : (1 < (rd_L1 l0_1 x31_3).length) = True := eq_true (by omega)
                                          (try rw [show ((1 : Int)).toNat = 1 from rfl] at hx173_0)
                                          replace hx173_0 := (HB.out.cell (World.block_lt_of_cell? w _ hx173_0)).trans hx173_0
                                          replace p173 := eq_true p173
                                          replace q173 := eq_true q173
                                          have p31 : 0 ≤ ((rd (rd_L1 l0_1 x31_3) 1) : Int) := of_decide_eq_true (by first | (with_reducible assumption) | assumption)
                                          have q31 : ((rd (rd_L1 l0_1 x31_3) 1) : Int) < ((x5_3.length : Int) : Int) := of_decide_eq_true (by first | (with_reducible assumption) | assumption)
                                          obtain ⟨hx31_0, hf31_0⟩ := Kd.R_celln 0 HO_5.out ((rd (rd_L1 l0_1 x31_3) 1) : Int) p31 q31
                                          replace p31 := eq_true p31
                                          replace q31 := eq_true q31
                                          have HP44 := Kd.R_putg HO_5.out ((rd (rd_L1 l0_1 x31_3) 1) : Int) (wrap64 (x7_2 + 1))
                                          go_wp2_with (first | ((with_reducible refine gate_store (t := 3) (p := 58) rfl ?_); refine store_event (t := 3) (p := 58) (v := ?vo_w45) (w1 := (wc.setCell ⟨go10, ((rd (rd_L1 l0_1 x31_3) 1) : Int).toNat, none⟩ (.int .i64 (wrap64 (x7_2 + 1))))) ?hg ?ho ?hn ?hr ?_; (case ho => rfl); (case hg => rfl); (case hn => rfl); (case hr => first | (go_simp; done) | (go_simp; rfl)); intro w45 hw; have hg : wc.grownBy w45 (some go10) := (by rw [hw]; exact HP44.2); have hp_ : Kd.R (Kd.int .i64) 3 w45 w.heap.size (fun _ => True) (.slice (some ⟨go10, 0, none⟩) x5_3.length co10) y174 := (by rw [hw, Ny174.out]; exact HP44.1); clear HP44; have n0_ := Aside0.mk (hp_); have n1_ := Aside0.mk (blk_grown (g := gb163) (o := .cells #[.int .i64 a0_0, .slice (some ad168) l0_1.length c0_1, .slice A0_2 l0_2.length c0_2] 38 (0, 0)) (by (with_reducible repeat (first | refine blk_drewN ?_ _ | refine blk_drew ?_ | refine blk_alloc ?_ _)); exact BK163.out) hg (Kd.R_ne HO_5.out BK163.out (by decide))); have n2_ := Aside0.mk ((by rw [hw]; exact below_set (HB.out) GB10.out : Below w.heap.size w w45)); clear HO_5; clear BK163; clear HB; have HO_5 := n0_; have BK163 := n1_; have HB := n2_; clear n0_ n1_ n2_; clear hg hw hp_; have p175 : 0 ≤ (1 : Int) := (by omega); have q175 : 1 < ((rd_L1 l0_1 x31_3).length : Int) := of_decide_eq_true (by first | (with_reducible assumption) | assumption); obtain ⟨ad175, e175, hx175_0⟩ := Kd.at_int HR168_0.out 1 p175 q175; obtain rfl : ad173 = ad175 := (by injection e175); (try simp only [show (1 : Int).toNat = 1 from rfl, Nat.reduceMul, Nat.reduceEqDiff, Go.Addr.add, ↓reduceIte] at hx175_0); have qi175 : (1 < (rd_L1 l0_1 x31_3).length) = True := eq_true (by omega); (try rw [show ((1 : Int)).toNat = 1 from rfl] at hx175_0); replace hx175_0 := (HB.out.cell (World.block_lt_of_cell? w _ hx175_0)).trans hx175_0; replace p175 := eq_true p175; replace q175 := eq_true q175; have p176 : 0 ≤ ((rd (rd_L1 l0_1 x31_3) 1) : Int) := of_decide_eq_true (by first | (with_reducible assumption) | assumption); have q176 : (rd (rd_L1 l0_1 x31_3) 1) < (y174.length : Int) := (by have h_ : ((rd (rd_L1 l0_1 x31_3) 1) : Int) < ((x5_3.length : Int) : Int) := of_decide_eq_true (by first | (with_reducible assumption) | assumption); first | (have e_ := (Kd.R_reads' HO_5.out).1; omega) | simpa only [Ny174.out, List.length_set] using h_); have ql176 : (((rd (rd_L1 l0_1 x31_3) 1) : Int) < ((x5_3.length : Int) : Int)) = True := eq_true (of_decide_eq_true (by first | (with_reducible assumption) | assumption)); obtain ⟨ad176, e176, hx176_0⟩ := Kd.at_int (Kd.R_reads' HO_5.out).2.2 (rd (rd_L1 l0_1 x31_3) 1) p176 q176; obtain rfl : (⟨go10, 0, none⟩ : Addr) = ad176 := (by injection e176); (first | simp only [add_plain] at hx176_0 | simp only [add_at] at hx176_0 | simp only [Addr.add, Nat.zero_add] at hx176_0 | skip); replace p176 := eq_true p176; replace q176 := eq_true q176))
                                          (try simp only [← hl5_3])
                                          go_roundg kj18
                                          case measure => have := HK1.out; have := HK2.out; have := HK3.out; have := HJ18.out; omega
                                          case rel => exact ⟨(y174), (wrap64 (x31_3 + 1)), (by first | rfl | (simp; done) | (simp [*]; done)), H', ⟨by have := HK1.out; have := HK2.out; have := HK3.out; have := HJ18.out; omega⟩, ⟨by (try simp only [hl5_2]); (try simp only [hl5_3]); (with_reducible repeat (first | apply Kd.R_alloc | apply Kd.R_drewN | apply Kd.R_drew)); exact HO_5.out⟩, ⟨by (try simp only [hl5_2]); (try simp only [hl5_3]); (with_reducible repeat (first | refine blk_drewN ?_ _ | refine blk_drew ?_ | refine blk_alloc ?_ _)); exact BK163.out⟩, ⟨by repeat (first | (with_reducible first | exact HB.out | apply below_alloc | apply pw_below_drewN | apply below_drew1 | refine below_set ?_ GE163.out) | exact HB.out)⟩⟩
                                      · rw [if_neg c30] at H
                                        exact absurd H (by simp)
                                    · rw [if_neg c29] at H
                                      exact absurd H (by simp)
                                  · rw [if_neg c28] at H
                                    exact absurd H (by simp)
                                · replace c27 := Bool.eq_false_iff.mpr c27
                                  subst c27
                                  have H1 : (if 1 < ((rd_L1 l0_1 x31_3).length : Int) then (if 0 ≤ (rd (rd_L1 l0_1 x31_3) 1) then (if (rd (rd_L1 l0_1 x31_3) 1) < (x5_3.length : Int) then (if (rd x5_3 (rd (rd_L1 l0_1 x31_3) 1)) = x7_2 then (if 0 < ((rd_L1 l0_1 x31_3).length : Int) then (if 0 ≤ (rd (rd_L1 l0_1 x31_3) 0) then (if (rd (rd_L1 l0_1 x31_3) 0) < (x5_3.length : Int) then (if (rd x5_3 (rd (rd_L1 l0_1 x31_3) 0)) < 0 then (spec_l15Far.l2 kj18 (x5_3.set ((rd (rd_L1 l0_1 x31_3) 0) : Int).toNat (wrap64 (x7_2 + 1))) x7_2 l0_1 (l0_1.length : Int) (wrap64 (x31_3 + 1)) a0_0 l0_1 l0_2) else (spec_l15Far.l2 kj18 x5_3 x7_2 l0_1 (l0_1.length : Int) (wrap64 (x31_3 + 1)) a0_0 l0_1 l0_2)) else (none)) else (none)) else (none)) else (spec_l15Far.l2 kj18 x5_3 x7_2 l0_1 (l0_1.length : Int) (wrap64 (x31_3 + 1)) a0_0 l0_1 l0_2)) else (none)) else (none)) else (none)) = some r := by rw [if_neg (show ¬ (false = true) by decide)] at H; exact H
                                  clear H
                                  have H := H1
                                  clear H1
                                  by_cases c46 : 1 < ((rd_L1 l0_1 x31_3).length : Int)
                                  · rw [if_pos c46] at H
                                    have c46b0 : decide (1 < ((rd_L1 l0_1 x31_3).length : Int)) = true := decide_eq_true c46
                                    have c46b1 : decide (1 < (rd_L1 l0_1 x31_3).length) = true := decide_eq_true (by omega)
                                    clear c46
                                    by_cases c47 : 0 ≤ (rd (rd_L1 l0_1 x31_3) 1)
                                    · rw [if_pos c47] at H
                                      have c47b0 : decide (0 ≤ (rd (rd_L1 l0_1 x31_3) 1)) = true := decide_eq_true c47
                                      clear c47
                                      by_cases c48 : (rd (rd_L1 l0_1 x31_3) 1) < (x5_3.length : Int)
                                      · rw [if_pos c48] at H
                                        have c48b0 : decide ((rd (rd_L1 l0_1 x31_3) 1) < (x5_3.length : Int)) = true := decide_eq_true c48
                                        clear c48
                                        by_cases c49 : (rd x5_3 (rd (rd_L1 l0_1 x31_3) 1)) = x7_2
                                        · rw [if_pos c49] at H
                                          have c49b0 : ((rd x5_3 (rd (rd_L1 l0_1 x31_3) 1)) == x7_2) = true := beq_iff_eq.mpr c49
                                          have c49b1 : ((rd x5_3 (rd (rd_L1 l0_1 x31_3) 1)) != x7_2) = false := bne_eq_false_iff_eq.mpr c49
                                          clear c49
                                          by_cases c50 : 0 < ((rd_L1 l0_1 x31_3).length : Int)
                                          · rw [if_pos c50] at H
                                            have c50b0 : decide (0 < ((rd_L1 l0_1 x31_3).length : Int)) = true := decide_eq_true c50
                                            have c50b1 : decide (0 < (rd_L1 l0_1 x31_3).length) = true := decide_eq_true (by omega)
                                            clear c50
                                            by_cases c51 : 0 ≤ (rd (rd_L1 l0_1 x31_3) 0)
                                            · rw [if_pos c51] at H
                                              have c51b0 : decide (0 ≤ (rd (rd_L1 l0_1 x31_3) 0)) = true := decide_eq_true c51
                                              clear c51
                                              by_cases c52 : (rd (rd_L1 l0_1 x31_3) 0) < (x5_3.length : Int)
                                              · rw [if_pos c52] at H
                                                have c52b0 : decide ((rd (rd_L1 l0_1 x31_3) 0) < (x5_3.length : Int)) = true := decide_eq_true c52
                                                clear c52
                                                by_cases c53 : (rd x5_3 (rd (rd_L1 l0_1 x31_3) 0)) < 0
                                                · rw [if_pos c53] at H
                                                  have c53b0 : decide ((rd x5_3 (rd (rd_L1 l0_1 x31_3) 0)) < 0) = true := decide_eq_true c53
                                                  clear c53
                                                  obtain ⟨y186, hy186⟩ : ∃ y_ : List Int, y_ = (x5_3.set ((rd (rd_L1 l0_1 x31_3) 0) : Int).toNat (wrap64 (x7_2 + 1))) := ⟨_, rfl⟩
                                                  replace H : (spec_l15Far.l2 kj18 y186 x7_2 l0_1 (l0_1.length : Int) (wrap64 (x31_3 + 1)) a0_0 l0_1 l0_2) = some r := by first | (rw [hy186]; with_reducible exact H) | (have H2_ := (Option.bind_some _ _).symm.trans H; rw [hy186]; with_reducible exact H2_) | (have H2_ := (Option.bind_some _ _).symm.trans H; with_reducible exact H2_) | with_reducible exact H | (rw [hy186]; exact H) | exact H
                                                  have Ny186 := Aside0.mk hy186
                                                  clear hy186
                                                  have H' := Aside0.mk H
                                                  clear H
                                                  have p181 : 0 ≤ (1 : Int) := (by omega)
                                                  have q181 : 1 < ((rd_L1 l0_1 x31_3).length : Int) := of_decide_eq_true (by first | (with_reducible assumption) | assumption)
                                                  obtain ⟨ad181, e181, hx181_0⟩ := Kd.at_int HR168_0.out 1 p181 q181
                                                  cases e181
                                                  (try simp only [show (1 : Int).toNat = 1 from rfl, Nat.reduceMul, Nat.reduceEqDiff, Go.Addr.add, ↓reduceIte] at hx181_0)
                                                  have qi181 : (1 < (rd_L1 l0_1 x31_3).length) = True := eq_true (by omega)
                                                  (try rw [show ((1 : Int)).toNat = 1 from rfl] at hx181_0)
                                                  replace hx181_0 := (HB.out.cell (World.block_lt_of_cell? w _ hx181_0)).trans hx181_0
                                                  replace p181 := eq_true p181
                                                  replace q181 := eq_true q181
                                                  have p182 : 0 ≤ ((rd (rd_L1 l0_1 x31_3) 1) : Int) := of_decide_eq_true (by first | (with_reducible assumption) | assumption)
                                                  have q182 : (rd (rd_L1 l0_1 x31_3) 1) < (x5_3.length : Int) := of_decide_eq_true (by first | (with_reducible assumption) | assumption)
                                                  obtain ⟨ad182, e182, hx182_0⟩ := Kd.at_int (Kd.R_reads' HO_5.out).2.2 (rd (rd_L1 l0_1 x31_3) 1) p182 q182
                                                  obtain rfl : (⟨go10, 0, none⟩ : Addr) = ad182 := (by injection e182)
                                                  (first | simp only [add_plain] at hx182_0 | simp only [add_at] at hx182_0 | simp only [Addr.add, Nat.zero_add] at hx182_0 | skip)
                                                  replace p182 := eq_true p182
                                                  replace q182 := eq_true q182
                                                  have p183 : 0 ≤ (0 : Int) := (by omega)
                                                  have q183 : 0 < ((rd_L1 l0_1 x31_3).length : Int) := of_decide_eq_true (by first | (with_reducible assumption) | assumption)
                                                  obtain ⟨ad183, e183, hx183_0⟩ := Kd.at_int HR168_0.out 0 p183 q183
                                                  obtain rfl : ad181 = ad183 := (by injection e183)
                                                  have qi183 : (0 < (rd_L1 l0_1 x31_3).length) = True := eq_true (by omega)
                                                  (try rw [show ((0 : Int)).toNat = 0 from rfl] at hx183_0)
                                                  (try rw [Addr.add_zero'] at hx183_0)
                                                  replace hx183_0 := (HB.out.cell (World.block_lt_of_cell? w _ hx183_0)).trans hx183_0
                                                  replace p183 := eq_true p183
                                                  replace q183 := eq_true q183
                                                  have p184 : 0 ≤ ((rd (rd_L1 l0_1 x31_3) 0) : Int) := of_decide_eq_true (by first | (with_reducible assumption) | assumption)
                                                  have q184 : (rd (rd_L1 l0_1 x31_3) 0) < (x5_3.length : Int) := of_decide_eq_true (by first | (with_reducible assumption) | assumption)
                                                  obtain ⟨ad184, e184, hx184_0⟩ := Kd.at_int (Kd.R_reads' HO_5.out).2.2 (rd (rd_L1 l0_1 x31_3) 0) p184 q184
                                                  obtain rfl : (⟨go10, 0, none⟩ : Addr) = ad184 := (by injection e184)
                                                  (first | simp only [add_plain] at hx184_0 | simp only [add_at] at hx184_0 | simp only [Addr.add, Nat.zero_add] at hx184_0 | skip)
                                                  replace p184 := eq_true p184
                                                  replace q184 := eq_true q184
                                                  have p185 : 0 ≤ (0 : Int) := (by omega)
                                                  have q185 : 0 < ((rd_L1 l0_1 x31_3).length : Int) := of_decide_eq_true (by first | (with_reducible assumption) | assumption)
                                                  obtain ⟨ad185, e185, hx185_0⟩ := Kd.at_int HR168_0.out 0 p185 q185
                                                  obtain rfl : ad181 = ad185 := (by injection e185)
                                                  have qi185 : (0 < (rd_L1 l0_1 x31_3).length) = True := eq_true (by omega)
                                                  (try rw [show ((0 : Int)).toNat = 0 from rfl] at hx185_0)
                                                  (try rw [Addr.add_zero'] at hx185_0)
                                                  replace hx185_0 := (HB.out.cell (World.block_lt_of_cell? w _ hx185_0)).trans hx185_0
                                                  replace p185 := eq_true p185
                                                  replace q185 := eq_true q185
                                                  have p54 : 0 ≤ ((rd (rd_L1 l0_1 x31_3) 0) : Int) := of_decide_eq_true (by first | (with_reducible assumption) | assumption)
                                                  have q54 : ((rd (rd_L1 l0_1 x31_3) 0) : Int) < ((x5_3.length : Int) : Int) := of_decide_eq_true (by first | (with_reducible assumption) | assumption)
                                                  obtain ⟨hx54_0, hf54_0⟩ := Kd.R_celln 0 HO_5.out ((rd (rd_L1 l0_1 x31_3) 0) : Int) p54 q54
                                                  replace p54 := eq_true p54
                                                  replace q54 := eq_true q54
                                                  have HP55 := Kd.R_putg HO_5.out ((rd (rd_L1 l0_1 x31_3) 0) : Int) (wrap64 (x7_2 + 1))
                                                  go_wp2_with (first | ((with_reducible refine gate_store (t := 3) (p := 82) rfl ?_); refine store_event (t := 3) (p := 82) (v := ?vo_w56) (w1 := (wc.setCell ⟨go10, ((rd (rd_L1 l0_1 x31_3) 0) : Int).toNat, none⟩ (.int .i64 (wrap64 (x7_2 + 1))))) ?hg ?ho ?hn ?hr ?_; (case ho => rfl); (case hg => rfl); (case hn => rfl); (case hr => first | (go_simp; done) | (go_simp; rfl)); intro w56 hw; have hg : wc.grownBy w56 (some go10) := (by rw [hw]; exact HP55.2); have hp_ : Kd.R (Kd.int .i64) 3 w56 w.heap.size (fun _ => True) (.slice (some ⟨go10, 0, none⟩) x5_3.length co10) y186 := (by rw [hw, Ny186.out]; exact HP55.1); clear HP55; have n0_ := Aside0.mk (hp_); have n1_ := Aside0.mk (blk_grown (g := gb163) (o := .cells #[.int .i64 a0_0, .slice (some ad168) l0_1.length c0_1, .slice A0_2 l0_2.length c0_2] 38 (0, 0)) (by (with_reducible repeat (first | refine blk_drewN ?_ _ | refine blk_drew ?_ | refine blk_alloc ?_ _)); exact BK163.out) hg (Kd.R_ne HO_5.out BK163.out (by decide))); have n2_ := Aside0.mk ((by rw [hw]; exact below_set (HB.out) GB10.out : Below w.heap.size w w56)); clear HO_5; clear BK163; clear HB; have HO_5 := n0_; have BK163 := n1_; have HB := n2_; clear n0_ n1_ n2_; clear hg hw hp_))
                                                  (try simp only [← hl5_3])
                                                  go_roundg kj18
                                                  case measure => have := HK1.out; have := HK2.out; have := HK3.out; have := HJ18.out; omega
                                                  case rel => exact ⟨(y186), (wrap64 (x31_3 + 1)), (by first | rfl | (simp; done) | (simp [*]; done)), H', ⟨by have := HK1.out; have := HK2.out; have := HK3.out; have := HJ18.out; omega⟩, ⟨by (try simp only [hl5_2]); (try simp only [hl5_3]); (with_reducible repeat (first | apply Kd.R_alloc | apply Kd.R_drewN | apply Kd.R_drew)); exact HO_5.out⟩, ⟨by (try simp only [hl5_2]); (try simp only [hl5_3]); (with_reducible repeat (first | refine blk_drewN ?_ _ | refine blk_drew ?_ | refine blk_alloc ?_ _)); exact BK163.out⟩, ⟨by repeat (first | (with_reducible first | exact HB.out | apply below_alloc | apply pw_below_drewN | apply below_drew1 | refine below_set ?_ GE163.out) | exact HB.out)⟩⟩
                                                · rw [if_neg c53] at H
                                                  have c53b0 : decide ((rd x5_3 (rd (rd_L1 l0_1 x31_3) 0)) < 0) = false := decide_eq_false c53
                                                  clear c53
                                                  have H' := Aside0.mk H
                                                  clear H
                                                  have p181 : 0 ≤ (1 : Int) := (by omega)
                                                  have q181 : 1 < ((rd_L1 l0_1 x31_3).length : Int) := of_decide_eq_true (by first | (with_reducible assumption) | assumption)
                                                  obtain ⟨ad181, e181, hx181_0⟩ := Kd.at_int HR168_0.out 1 p181 q181
                                                  cases e181
                                                  (try simp only [show (1 : Int).toNat = 1 from rfl, Nat.reduceMul, Nat.reduceEqDiff, Go.Addr.add, ↓reduceIte] at hx181_0)
                                                  have qi181 : (1 < (rd_L1 l0_1 x31_3).length) = True := eq_true (by omega)
                                                  (try rw [show ((1 : Int)).toNat = 1 from rfl] at hx181_0)
                                                  replace hx181_0 := (HB.out.cell (World.block_lt_of_cell? w _ hx181_0)).trans hx181_0
                                                  replace p181 := eq_true p181
                                                  replace q181 := eq_true q181
                                                  have p182 : 0 ≤ ((rd (rd_L1 l0_1 x31_3) 1) : Int) := of_decide_eq_true (by first | (with_reducible assumption) | assumption)
                                                  have q182 : (rd (rd_L1 l0_1 x31_3) 1) < (x5_3.length : Int) := of_decide_eq_true (by first | (with_reducible assumption) | assumption)
                                                  obtain ⟨ad182, e182, hx182_0⟩ := Kd.at_int (Kd.R_reads' HO_5.out).2.2 (rd (rd_L1 l0_1 x31_3) 1) p182 q182
                                                  obtain rfl : (⟨go10, 0, none⟩ : Addr) = ad182 := (by injection e182)
                                                  (first | simp only [add_plain] at hx182_0 | simp only [add_at] at hx182_0 | simp only [Addr.add, Nat.zero_add] at hx182_0 | skip)
                                                  replace p182 := eq_true p182
                                                  replace q182 := eq_true q182
                                                  have p183 : 0 ≤ (0 : Int) := (by omega)
                                                  have q183 : 0 < ((rd_L1 l0_1 x31_3).length : Int) := of_decide_eq_true (by first | (with_reducible assumption) | assumption)
                                                  obtain ⟨ad183, e183, hx183_0⟩ := Kd.at_int HR168_0.out 0 p183 q183
                                                  obtain rfl : ad181 = ad183 := (by injection e183)
                                                  have qi183 : (0 < (rd_L1 l0_1 x31_3).length) = True := eq_true (by omega)
                                                  (try rw [show ((0 : Int)).toNat = 0 from rfl] at hx183_0)
                                                  (try rw [Addr.add_zero'] at hx183_0)
                                                  replace hx183_0 := (HB.out.cell (World.block_lt_of_cell? w _ hx183_0)).trans hx183_0
                                                  replace p183 := eq_true p183
                                                  replace q183 := eq_true q183
                                                  have p184 : 0 ≤ ((rd (rd_L1 l0_1 x31_3) 0) : Int) := of_decide_eq_true (by first | (with_reducible assumption) | assumption)
                                                  have q184 : (rd (rd_L1 l0_1 x31_3) 0) < (x5_3.length : Int) := of_decide_eq_true (by first | (with_reducible assumption) | assumption)
                                                  obtain ⟨ad184, e184, hx184_0⟩ := Kd.at_int (Kd.R_reads' HO_5.out).2.2 (rd (rd_L1 l0_1 x31_3) 0) p184 q184
                                                  obtain rfl : (⟨go10, 0, none⟩ : Addr) = ad184 := (by injection e184)
                                                  (first | simp only [add_plain] at hx184_0 | simp only [add_at] at hx184_0 | simp only [Addr.add, Nat.zero_add] at hx184_0 | skip)
                                                  replace p184 := eq_true p184
                                                  replace q184 := eq_true q184
                                                  go_wp2
                                                  (try simp only [← hl5_3])
                                                  go_roundg kj18
                                                  case measure => have := HK1.out; have := HK2.out; have := HK3.out; have := HJ18.out; omega
                                                  case rel => exact ⟨(x5_3), (wrap64 (x31_3 + 1)), (by first | rfl | (simp; done) | (simp [*]; done)), H', ⟨by have := HK1.out; have := HK2.out; have := HK3.out; have := HJ18.out; omega⟩, ⟨by (try simp only [hl5_2]); (try simp only [hl5_3]); (with_reducible repeat (first | apply Kd.R_alloc | apply Kd.R_drewN | apply Kd.R_drew)); exact HO_5.out⟩, ⟨by (try simp only [hl5_2]); (try simp only [hl5_3]); (with_reducible repeat (first | refine blk_drewN ?_ _ | refine blk_drew ?_ | refine blk_alloc ?_ _)); exact BK163.out⟩, ⟨by repeat (first | (with_reducible first | exact HB.out | apply below_alloc | apply pw_below_drewN | apply below_drew1 | refine below_set ?_ GE163.out) | exact HB.out)⟩⟩
                                              · rw [if_neg c52] at H
                                                exact absurd H (by simp)
                                            · rw [if_neg c51] at H
                                              exact absurd H (by simp)
                                          · rw [if_neg c50] at H
                                            exact absurd H (by simp)
                                        · rw [if_neg c49] at H
                                          have c49b0 : ((rd x5_3 (rd (rd_L1 l0_1 x31_3) 1)) == x7_2) = false := beq_eq_false_iff_ne.mpr c49
                                          have c49b1 : ((rd x5_3 (rd (rd_L1 l0_1 x31_3) 1)) != x7_2) = true := bne_iff_ne.mpr c49
                                          have H' := Aside0.mk H
                                          clear H
                                          have p181 : 0 ≤ (1 : Int) := (by omega)
                                          have q181 : 1 < ((rd_L1 l0_1 x31_3).length : Int) := of_decide_eq_true (by first | (with_reducible assumption) | assumption)
                                          obtain ⟨ad181, e181, hx181_0⟩ := Kd.at_int HR168_0.out 1 p181 q181
                                          cases e181
                                          (try simp only [show (1 : Int).toNat = 1 from rfl, Nat.reduceMul, Nat.reduceEqDiff, Go.Addr.add, ↓reduceIte] at hx181_0)
                                          have qi181 : (1 < (rd_L1 l0_1 x31_3).length) = True := eq_true (by omega)
                                          (try rw [show ((1 : Int)).toNat = 1 from rfl] at hx181_0)
                                          replace hx181_0 := (HB.out.cell (World.block_lt_of_cell? w _ hx181_0)).trans hx181_0
                                          replace p181 := eq_true p181
                                          replace q181 := eq_true q181
                                          have p182 : 0 ≤ ((rd (rd_L1 l0_1 x31_3) 1) : Int) := of_decide_eq_true (by first | (with_reducible assumption) | assumption)
                                          have q182 : (rd (rd_L1 l0_1 x31_3) 1) < (x5_3.length : Int) := of_decide_eq_true (by first | (with_reducible assumption) | assumption)
                                          obtain ⟨ad182, e182, hx182_0⟩ := Kd.at_int (Kd.R_reads' HO_5.out).2.2 (rd (rd_L1 l0_1 x31_3) 1) p182 q182
                                          obtain rfl : (⟨go10, 0, none⟩ : Addr) = ad182 := (by injection e182)
                                          (first | simp only [add_plain] at hx182_0 | simp only [add_at] at hx182_0 | simp only [Addr.add, Nat.zero_add] at hx182_0 | skip)
                                          replace p182 := eq_true p182
                                          replace q182 := eq_true q182
                                          go_wp2
                                          (try simp only [← hl5_3])
                                          go_roundg kj18
                                          case measure => have := HK1.out; have := HK2.out; have := HK3.out; have := HJ18.out; omega
                                          case rel => exact ⟨(x5_3), (wrap64 (x31_3 + 1)), (by first | rfl | (simp; done) | (simp [*]; done)), H', ⟨by have := HK1.out; have := HK2.out; have := HK3.out; have := HJ18.out; omega⟩, ⟨by (try simp only [hl5_2]); (try simp only [hl5_3]); (with_reducible repeat (first | apply Kd.R_alloc | apply Kd.R_drewN | apply Kd.R_drew)); exact HO_5.out⟩, ⟨by (try simp only [hl5_2]); (try simp only [hl5_3]); (with_reducible repeat (first | refine blk_drewN ?_ _ | refine blk_drew ?_ | refine blk_alloc ?_ _)); exact BK163.out⟩, ⟨by repeat (first | (with_reducible first | exact HB.out | apply below_alloc | apply pw_below_drewN | apply below_drew1 | refine below_set ?_ GE163.out) | exact HB.out)⟩⟩
                                      · rw [if_neg c48] at H
                                        exact absurd H (by simp)
                                    · rw [if_neg c47] at H
                                      exact absurd H (by simp)
                                  · rw [if_neg c46] at H
                                    exact absurd H (by simp)
                          · rw [if_neg c18] at H
                            exact absurd H (by simp)
                        · rw [if_neg c17] at H
                          exact absurd H (by simp)
                      · rw [if_neg c16] at H
                        have c16b0 : decide (x31_3 < (l0_1.length : Int)) = false := decide_eq_false c16
                        have c16b0s := c16b0
                        (try simp only [hl5_2, hl5_3] at c16b0s)
                        clear c16
                        have H' := Aside0.mk H
                        clear H
                        go_wp2
                        (try simp only [← hl5_2, ← hl5_3])
                        go_roundg k3
                        case measure => have := HK1.out; have := HK2.out; have := HK3.out; omega
                        case rel => exact ⟨(x5_3), (wrap64 (x7_2 + 1)), (by first | rfl | (simp; done) | (simp [*]; done)), H', ⟨by have := HK1.out; have := HK2.out; have := HK3.out; omega⟩, ⟨by (try simp only [hl5_2]); (try simp only [hl5_3]); (with_reducible repeat (first | apply Kd.R_alloc | apply Kd.R_drewN | apply Kd.R_drew)); exact HO_5.out⟩, ⟨by (try simp only [hl5_2]); (try simp only [hl5_3]); (with_reducible repeat (first | refine blk_drewN ?_ _ | refine blk_drew ?_ | refine blk_alloc ?_ _)); exact BK163.out⟩, ⟨by repeat (first | (with_reducible first | exact HB.out | apply below_alloc | apply pw_below_drewN | apply below_drew1 | refine below_set ?_ GE163.out) | exact HB.out)⟩⟩
                · rw [if_neg c14] at H
                  have c14b0 : decide (x7_2 < a0_0) = false := decide_eq_false c14
                  clear c14
                  obtain rfl := Option.some.inj H
                  have hcz57_0 : wr.cell? ⟨gb163, 0, none⟩ = some (.int .i64 a0_0) := (blk_cell BK163.out 0).trans rfl
                  have hcz57_1 : wr.cell? ⟨gb163, 1, none⟩ = some (.slice A0_1 l0_1.length c0_1) := (blk_cell BK163.out 1).trans rfl
                  have hcz57_2 : wr.cell? ⟨gb163, 2, none⟩ = some (.slice A0_2 l0_2.length c0_2) := (blk_cell BK163.out 2).trans rfl
                  have hfz57_0 := blk_frozen BK163.out 0
                  have hfz57_1 := blk_frozen BK163.out 1
                  have hfz57_2 := blk_frozen BK163.out 2
                  go_wp2
                  go_ret
                  exact ⟨_, by first | rfl | (simp [errW_none, errW_some] <;> rfl) | (simp [*, errW_none, errW_some] <;> rfl), by (with_reducible repeat (first | apply Kd.R_alloc | apply Kd.R_drewN | apply Kd.R_drew)); exact HO_5.out, by repeat (first | (with_reducible first | exact HB.out | apply below_alloc | apply pw_below_drewN | apply below_drew1 | refine below_set ?_ GE163.out) | exact HB.out)⟩
          · rw [if_neg c9] at H
            exact absurd H (by simp)
        · rw [if_neg c8] at H
          exact absurd H (by simp)

end Go.Proofs.Ytpibdgknmjjolaa.QFnExactWayBetween
